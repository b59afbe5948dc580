import Derived.Test.YtonhdiemjgdcnaaGreatCC5
set_option maxHeartbeats 64000000
set_option maxRecDepth 100000
set_option linter.unusedVariables false
set_option linter.unusedSimpArgs false
namespace Go.Proofs.YtonhdiemjgdcnaaGreat.PFnExactGivePage
open Go.RowKit Go.Proofs.YtonhdiemjgdcnaaGreatW.PrintWords Go.Proofs.YtonhdiemjgdcnaaGreatW.PrintLast Go.Proofs.YtonhdiemjgdcnaaGreatW.PrintMore
attribute [local go_sem] zba zga zoa zna zW zV zfa zea
def spec_l01In.f (a0:Int) (a1:Int) (a2:Int):Option (Bool):=if a0≥a1 then (some (decide (a0≤a2))) else (some false)
theorem spec_l01In.calls (a0:Int) (a1:Int) (a2:Int) (r:Bool) (w:World) (h:spec_l01In.f a0 a1 a2=some r):
  Calls Tryz.prog 77 #[.int .i64 a0,.int .i64 a1,.int .i64 a2] w fun e w'=>e= .returned (.bool r)∧Drawn0 w w':=by
 have H:(if a0≥a1 then (some (decide (a0≤a2))) else (some false))=some r:=h
 clear h
 by_cases c4:a0≥a1
 ·rw [if_pos c4] at H
  have c4b0:decide (a1≤a0)=true:=decide_eq_true c4
  clear c4
  obtain rfl:=Option.some.inj H
  go_enter Tryz.func77,Tryz.ntmps77
  go_wp2
  go_ret
  exact ⟨by first|rfl|(simp;done)|(simp [*];done),by repeat (first|exact Drawn0.refl _|apply Drawn0.step)⟩
 ·rw [if_neg c4] at H
  have c4b0:decide (a1≤a0)=false:=decide_eq_false c4
  clear c4
  obtain rfl:=Option.some.inj H
  go_enter Tryz.func77,Tryz.ntmps77
  go_wp2
  go_ret
  exact ⟨by first|rfl|(simp;done)|(simp [*];done),by repeat (first|exact Drawn0.refl _|apply Drawn0.step)⟩
def spec_SyncDisk.l0:Nat→Int→List ByteArray→List (S110)→List ByteArray→Option (List ByteArray×(List (S110)))
 |0,_,_,_,_=>none
 |k+1,x4,x397000,x397001,x405000=>if x4<(x397001.length:Int) then (if 0≤x4 then ((spec_l01In.f ((zn x397001 x4).f0) 0 (wrap64 ((x397000.length:Int)-1))).bind fun t406=>(if t406=true then (if 0≤((zn x397001 x4).f0) then (if ((zn x397001 x4).f0)<(x405000.length:Int) then (spec_SyncDisk.l0 k (wrap64 (x4+1)) x397000 x397001 (x405000.set (((zn x397001 x4).f0):Int).toNat ((zn x397001 x4).f1))) else (none)) else (none)) else (spec_SyncDisk.l0 k (wrap64 (x4+1)) x397000 x397001 x405000))) else (none)) else (some (x405000,([]:List (S110))))
def spec_SyncDisk.f (k:Nat) (l0_0:List ByteArray) (l0_1:List (S110)):Option (List ByteArray×(List (S110))):=(some (([]:List ByteArray):List ByteArray)).bind fun y398=>(if y398.length+l0_0.length<8796093022208 then (spec_SyncDisk.l0 k 0 l0_0 l0_1 (y398++l0_0)) else (none))
def spec_SyncDisk.T5:Bool×List (List Nat×List Nat):=(true,[([],[]),([0],[0]),([],[]),([1,2],[1,2]),([3],[3]),([4],[4]),([],[]),([6],[6]),([7],[7]),([8],[8]),([5,9],[5,9])])
def spec_SyncDisk.B5:List Nat:=[0,1,0,7,15,31,0,64,192,448,1023]
theorem spec_SyncDisk.tab5:rtab .any (zkb Tryz.f33 5)=spec_SyncDisk.T5:=by kernel_rfl
theorem spec_SyncDisk.bits5:zGa spec_SyncDisk.T5.2 spec_SyncDisk.B5=true:=by kernel_rfl
def spec_SyncDisk.T6:Bool×List (List Nat×List Nat):=(true,[([],[]),([0],[0]),([],[]),([2],[2]),([],[]),([3,4],[3,4]),([5],[5]),([6],[6]),([],[]),([8],[8]),([],[]),([9,10],[9,10]),([11],[11]),([12],[12]),([1,7,0,1,2,3,4,5,6,7,8,9,10,11,12,13],[1,7]),([14,13,0,1,2,3,4,5,6,7,8,9,10,11,12,13],[13,14])])
def spec_SyncDisk.B6:List Nat:=[0,1,0,4,0,28,60,124,0,256,0,1792,3840,7936,16383,32767]
theorem spec_SyncDisk.tab6:rtab .any (zkb Tryz.f33 6)=spec_SyncDisk.T6:=by kernel_rfl
theorem spec_SyncDisk.bits6:zGa spec_SyncDisk.T6.2 spec_SyncDisk.B6=true:=by kernel_rfl
theorem spec_SyncDisk.calls (k:Nat) (A0_0:Option Addr) (c0_0:Nat) (l0_0:List ByteArray) (A0_1:Option Addr) (c0_1:Nat) (l0_1:List (S110)) (r1:List ByteArray) (r2:List (S110)) (w:World) (hr0_0:Kd.C Kd.string w A0_0 l0_0.length l0_0) (hc0_0:l0_0.length≤c0_0) (hr0_1:Kd.C k110 w A0_1 l0_1.length l0_1) (hc0_1:l0_1.length≤c0_1) (h:spec_SyncDisk.f k l0_0 l0_1=some (r1,r2)):
  Calls Tryz.prog 33 #[.agg #[.slice A0_0 l0_0.length c0_0,.slice A0_1 l0_1.length c0_1]] w fun e w'=>∃v0_ v1_:Value,e= .returned (.agg #[v0_,v1_])∧Kd.R Kd.string 9 w' w.heap.size (fun _=>True) v0_ r1∧Kd.R k110 110 w' w.heap.size (fun _=>True) v1_ r2∧Below w.heap.size w w':=by
 have hu32:=Tryz.underlying37
 have HR0_0:=zz hr0_0
 have HC0_0:=zz hc0_0
 clear hr0_0 hc0_0
 have HR0_1:=zz hr0_1
 have HC0_1:=zz hc0_1
 clear hr0_1 hc0_1
 have HB:=zz (Below.refl w.heap.size w)
 have H:((some (([]:List ByteArray):List ByteArray)).bind fun y398=>(if y398.length+l0_0.length<8796093022208 then (spec_SyncDisk.l0 k 0 l0_0 l0_1 (y398++l0_0)) else (none)))=some (r1,r2):=h
 clear h
 obtain ⟨y398,hy398⟩:∃y_:List ByteArray,y_=(([]:List ByteArray)):=⟨_,rfl⟩
 replace H:(if y398.length+l0_0.length<8796093022208 then (spec_SyncDisk.l0 k 0 l0_0 l0_1 (y398++l0_0)) else (none))=some (r1,r2):=by first|(rw [hy398];with_reducible exact H)|(have H2_:=(Option.bind_some _ _).symm.trans H;rw [hy398];with_reducible exact H2_)|(have H2_:=(Option.bind_some _ _).symm.trans H;with_reducible exact H2_)|with_reducible exact H|(rw [hy398];exact H)|exact H
 have Ny398:=zz hy398
 clear hy398
 by_cases c2:y398.length+l0_0.length<8796093022208
 ·rw [if_pos c2] at H
  have LMc2:=zz c2
  clear c2
  obtain ⟨y401,hy401⟩:∃y_:List ByteArray,y_=(y398++l0_0):=⟨_,rfl⟩
  replace H:(spec_SyncDisk.l0 k 0 l0_0 l0_1 y401)=some (r1,r2):=by first|(rw [hy401];with_reducible exact H)|(have H2_:=(Option.bind_some _ _).symm.trans H;rw [hy401];with_reducible exact H2_)|(have H2_:=(Option.bind_some _ _).symm.trans H;with_reducible exact H2_)|with_reducible exact H|(rw [hy401];exact H)|exact H
  have Ny401:=zz hy401
  clear hy401
  have H':=zz H
  clear H
  go_enter Tryz.func33,Tryz.ntmps33
  go_wp2_with (first|((with_reducible refine zv (N:=1) rfl ?_);refine zE ?hg (N:=1) ?hd (cs:= #[.slice A0_0 l0_0.length c0_0,.slice A0_1 l0_1.length c0_1]) (t:=37) ?hr ?_;(case hd=>rfl);(case hg=>rfl);(case hr=>first|(go_simp;done)|(go_simp;rfl));intro gb396 hg w3 hbox hb;have n0_:=zz (zk zq1 hb);have n1_:=zz (hbox);have n2_:=zz ((by rw [hg];exact (zi zq1):w.heap.size≤gb396));have n3_:=zz ((by rw [hg];exact (zi zq1):w.heap.size≤gb396));clear HB;have HB:=n0_;have BK396:=n1_;have GW396:=n2_;have GE396:=n3_;clear n0_ n1_ n2_ n3_;clear hb hbox hg)|((with_reducible refine zv (N:=2) rfl ?_);refine zE ?hg (N:=2) ?hd (cs:= #[.slice none 0 0,.slice none 0 0]) (t:=37) ?hr ?_;(case hd=>rfl);(case hg=>rfl);(case hr=>first|(go_simp;done)|(go_simp;rfl));intro gb397 hg w4 hbox hb;have n0_:=zz (zu (g:=gb396) (o:= .cells #[.slice A0_0 l0_0.length c0_0,.slice A0_1 l0_1.length c0_1] 37 (0,0)) (zq0 BK396.out) hb);have n1_:=zz (zk (zq3 GE396.out) hb);have n2_:=zz (hbox);have n3_:=zz ((by rw [hg];exact (zi (zq3 GE396.out)):w.heap.size≤gb397));have n4_:=zz ((by rw [hg];exact (zi (zq3 GE396.out)):w.heap.size≤gb397));have n5_:=zz ((by rw [hg];exact Nat.ne_of_lt (zG (g:=gb396) (o:= .cells #[.slice A0_0 l0_0.length c0_0,.slice A0_1 l0_1.length c0_1] 37 (0,0)) (zq0 BK396.out)):gb396≠gb397));have n6_:=zz ((by rw [hg];exact Nat.ne_of_gt (zG (g:=gb396) (o:= .cells #[.slice A0_0 l0_0.length c0_0,.slice A0_1 l0_1.length c0_1] 37 (0,0)) (zq0 BK396.out)):gb397≠gb396));clear BK396;clear HB;have BK396:=n0_;have HB:=n1_;have BK397:=n2_;have GW397:=n3_;have GE397:=n4_;have NB396_397:=n5_;have NB397_396:=n6_;clear n0_ n1_ n2_ n3_ n4_ n5_ n6_;clear hb hbox hg)|((with_reducible refine zv (N:=5) rfl ?_);refine Kd.R_lit Kd.string _ 9 ?hg (N:=5) ?hd (xs:=([]:List ByteArray)) (inner:=[]) (ok:=fun _=>True) (okp:=fun _=>True) ?hr ?hp (fun _ hk=>hk) trivial (Below.refl _ _) (Nat.le_refl _) zq15 ?_;(case hd=>rfl);(case hg=>rfl);(case hr=>first|(go_simp;done)|(go_simp;rfl));(case hp=>exact (Reps.none _ _));intro v399 w5 ho6 hb hg_ hnew_;clear hg_ hnew_;(first|rw [←Ny398.out] at ho6|(simp only [Int.reduceToNat] at ho6;rw [←Ny398.out] at ho6));have n0_:=zz (Kd.R_lower ho6 (zi (zq2 GE396.out GE397.out)));have n1_:=zz (zu (g:=gb396) (o:= .cells #[.slice A0_0 l0_0.length c0_0,.slice A0_1 l0_1.length c0_1] 37 (0,0)) (zq0 BK396.out) hb);have n2_:=zz (zu (g:=gb397) (o:= .cells #[.slice none 0 0,.slice none 0 0] 37 (0,0)) (zq0 BK397.out) hb);have n3_:=zz (zk (zq2 GE396.out GE397.out) hb);clear BK396;clear BK397;clear HB;have HO400:=n0_;have BK396:=n1_;have BK397:=n2_;have HB:=n3_;clear n0_ n1_ n2_ n3_;clear hb ho6;have hnb7:=NB396_397.out;have hnc7:=NB397_396.out;have hcz8_0:w5.cell? ⟨gb396,0,none⟩=some (.slice A0_0 l0_0.length c0_0):=(ze BK396.out 0).trans rfl;have hcz8_1:w5.cell? ⟨gb396,1,none⟩=some (.slice A0_1 l0_1.length c0_1):=(ze BK396.out 1).trans rfl;have hfz8_0:=zd BK396.out 0;have hfz8_1:=zd BK396.out 1)|((with_reducible refine zQ (b:= .append) (xs:= #[.tmp 5,.tmp 7]) rfl ?_);at_builtin;refine Kd.R_append_rows Kd.string (w0:=w) w.heap.size rfl (.tmp 5) (.tmp 7) 25 9 (.string ⟨#[]⟩) 16 rfl Tryz.underlying25 info9 rfl zq14 zq5 v399 y398 l0_0 _ _ _ (fun _=>True) (fun _=>False) rfl rfl ?aO ?aR (fun _ _ h=>h) (fun _ h=>h.elim) ?aF ?aB ?aS ?aL ?_;(case aR=>repeat (first|exact (Kd.C_below HR0_0.out HB.out)|(with_reducible refine Kd.C_alloc ?_ _)|(with_reducible refine Kd.C_drewN ?_ _)|(with_reducible refine Kd.C_drew ?_)));(case aB=>exact (zq2 GE396.out GE397.out));(case aF=>exact (fun _ _=>trivial));(case aO=>exact (zq9 HO400.out));(case aS=>exact (zi (zq2 GE396.out GE397.out)));(case aL=>have:=LMc2.out;omega);intro v402 w9 ho hb hg hat;rw [←Ny401.out] at ho;have n0_:=zz (zI (g:=gb396) (o:= .cells #[.slice A0_0 l0_0.length c0_0,.slice A0_1 l0_1.length c0_1] 37 (0,0)) (zq0 BK396.out) hg (Kd.R_ne HO400.out BK396.out zq14));have n1_:=zz (zI (g:=gb397) (o:= .cells #[.slice none 0 0,.slice none 0 0] 37 (0,0)) (zq0 BK397.out) hg (Kd.R_ne HO400.out BK397.out zq14));have n2_:=zz (hb);have n3_:=zz (ho);clear BK396;clear BK397;clear HB;clear HO400;have BK396:=n0_;have BK397:=n1_;have HB:=n2_;have HO403:=n3_;clear n0_ n1_ n2_ n3_;clear ho hb hg hat;obtain ⟨Ao10,co10,eo10⟩:=Kd.R_slice HO403.out;subst eo10)|((with_reducible refine zv (N:=3) rfl ?_);refine zE ?hg (N:=3) ?hd (cs:= #[.slice none 0 0,.slice none 0 0]) (t:=37) ?hr ?_;(case hd=>rfl);(case hg=>rfl);(case hr=>first|(go_simp;done)|(go_simp;rfl));intro gb404 hg w11 hbox hb;have n0_:=zz (Kd.R_below (zq9 HO403.out) hb);have n1_:=zz (zu (g:=gb396) (o:= .cells #[.slice A0_0 l0_0.length c0_0,.slice A0_1 l0_1.length c0_1] 37 (0,0)) (zq0 BK396.out) hb);have n2_:=zz (zu (g:=gb397) (o:= .cells #[.slice none 0 0,.slice none 0 0] 37 (0,0)) (zq0 BK397.out) hb);have n3_:=zz (zk (zq2 GE396.out GE397.out) hb);have n4_:=zz (hbox);have n5_:=zz ((by rw [hg];exact (zi (zq2 GE396.out GE397.out)):w.heap.size≤gb404));have n6_:=zz ((by rw [hg];exact (zi (zq2 GE396.out GE397.out)):w.heap.size≤gb404));have n7_:=zz ((by rw [hg];exact Nat.ne_of_lt (zG (g:=gb396) (o:= .cells #[.slice A0_0 l0_0.length c0_0,.slice A0_1 l0_1.length c0_1] 37 (0,0)) (zq0 BK396.out)):gb396≠gb404));have n8_:=zz ((by rw [hg];exact Nat.ne_of_gt (zG (g:=gb396) (o:= .cells #[.slice A0_0 l0_0.length c0_0,.slice A0_1 l0_1.length c0_1] 37 (0,0)) (zq0 BK396.out)):gb404≠gb396));have n9_:=zz ((by rw [hg];exact Nat.ne_of_lt (zG (g:=gb397) (o:= .cells #[.slice none 0 0,.slice none 0 0] 37 (0,0)) (zq0 BK397.out)):gb397≠gb404));have n10_:=zz ((by rw [hg];exact Nat.ne_of_gt (zG (g:=gb397) (o:= .cells #[.slice none 0 0,.slice none 0 0] 37 (0,0)) (zq0 BK397.out)):gb404≠gb397));clear HO403;clear BK396;clear BK397;clear HB;have HO403:=n0_;have BK396:=n1_;have BK397:=n2_;have HB:=n3_;have BK404:=n4_;have GW404:=n5_;have GE404:=n6_;have NB396_404:=n7_;have NB404_396:=n8_;have NB397_404:=n9_;have NB404_397:=n10_;clear n0_ n1_ n2_ n3_ n4_ n5_ n6_ n7_ n8_ n9_ n10_;clear hb hbox hg;have hnb12:=NB404_396.out;have hnc12:=NB396_404.out;have hnb13:=NB404_397.out;have hnc13:=NB397_404.out;have hcz14_0:w11.cell? ⟨gb404,0,none⟩=some (.slice none 0 0):=(ze BK404.out 0).trans rfl;have hcz14_1:w11.cell? ⟨gb404,1,none⟩=some (.slice none 0 0):=(ze BK404.out 1).trans rfl;have hfz14_0:=zd BK404.out 0;have hfz14_1:=zd BK404.out 1))
  go_loopg [4] k (fun kq v4 w'=>∃(x4_1:Int) (x405000_1:List ByteArray) (u405000:Value),v4= .int .i64 x4_1∧Z0 (spec_SyncDisk.l0 kq x4_1 l0_0 l0_1 x405000_1=some (r1,r2))∧Z0 (kq≤k)∧Z0 (Kd.R Kd.string 9 w' w.heap.size (fun _=>True) u405000 x405000_1)∧Z0 (w'.heap[gb396]?=some (.cells #[(.slice A0_0 l0_0.length c0_0),(.slice A0_1 l0_1.length c0_1)] 37 (0,0)))∧Z0 (w'.heap[gb397]?=some (.cells #[(.slice none 0 0),(.slice none 0 0)] 37 (0,0)))∧Z0 (w'.heap[gb404]?=some (.cells #[u405000,(.slice none 0 0)] 37 (0,0)))∧Z0 (Below w.heap.size w w'))
  case atStart=>exact ⟨(0),(y401),(.slice Ao10 y401.length co10),zq12,H',⟨Nat.le_refl _⟩,⟨by (with_reducible repeat (first|apply Kd.R_alloc|apply Kd.R_drewN|apply Kd.R_drew));exact Kd.R_mono (Kd.R_far (p:=⟨gb404,1,none⟩) (Kd.R_far (p:=⟨gb404,0,none⟩) (Kd.R_types HO403.out BK404.out zq14) (fun _ hk=>hk.2) (.slice Ao10 y401.length co10)) (fun _ hk=>hk.2) (.slice none 0 0)) (fun _ hk=>trivial)⟩,⟨by (with_reducible repeat (first|refine zj ?_ _|refine zl ?_|refine zh ?_ _));refine zH ?_ NB396_404.out _;(with_reducible repeat (first|refine zj ?_ _|refine zl ?_|refine zh ?_ _));refine zH ?_ NB396_404.out _;(with_reducible repeat (first|refine zj ?_ _|refine zl ?_|refine zh ?_ _));exact BK396.out⟩,⟨by (with_reducible repeat (first|refine zj ?_ _|refine zl ?_|refine zh ?_ _));refine zH ?_ NB397_404.out _;(with_reducible repeat (first|refine zj ?_ _|refine zl ?_|refine zh ?_ _));refine zH ?_ NB397_404.out _;(with_reducible repeat (first|refine zj ?_ _|refine zl ?_|refine zh ?_ _));exact BK397.out⟩,⟨by (with_reducible repeat (first|refine zj ?_ _|refine zl ?_|refine zh ?_ _));refine zL (cs:= #[.slice Ao10 y401.length co10,.slice none 0 0]) ?_ 1 _ rfl;(with_reducible repeat (first|refine zj ?_ _|refine zl ?_|refine zh ?_ _));refine zL (cs:= #[.slice none 0 0,.slice none 0 0]) ?_ 0 _ rfl;(with_reducible repeat (first|refine zj ?_ _|refine zl ?_|refine zh ?_ _));exact BK404.out⟩,⟨by repeat (first|(with_reducible first|exact HB.out|apply zg|apply zf|apply zm|refine zr ?_ GE396.out|refine zr ?_ GE397.out|refine zr ?_ GE404.out)|exact HB.out)⟩⟩
  case round=>
   clear H'
   try clear c2
   try clear hcz14_0
   try clear hcz14_1
   try clear hcz8_0
   try clear hcz8_1
   try clear hfz14_0
   try clear hfz14_1
   try clear hfz8_0
   try clear hfz8_1
   obtain ⟨x4_1,x405000_1,u405000,rfl,HA,HK1,HO_405000,BK396,BK397,BK404,HB⟩:=hrel
   cases gk with
   |zero=>exact absurd HA.out (by simp [spec_SyncDisk.l0])
   |succ k1=>
    have H:=HA.out
    clear HA
    simp only [spec_SyncDisk.l0] at H
    by_cases c15:x4_1<(l0_1.length:Int)
    ·rw [if_pos c15] at H
     have c15b0:decide (x4_1<(l0_1.length:Int))=true:=decide_eq_true c15
     clear c15
     by_cases c16:0≤x4_1
     ·rw [if_pos c16] at H
      have c16b0:decide (0≤x4_1)=true:=decide_eq_true c16
      clear c16
      replace H:=Option.bind_eq_some_iff.mp H
      obtain ⟨t406,A170,H⟩:=H
      replace H:(if t406=true then (if 0≤((zn l0_1 x4_1).f0) then (if ((zn l0_1 x4_1).f0)<(x405000_1.length:Int) then (spec_SyncDisk.l0 k1 (wrap64 (x4_1+1)) l0_0 l0_1 (x405000_1.set (((zn l0_1 x4_1).f0):Int).toNat ((zn l0_1 x4_1).f1))) else (none)) else (none)) else (spec_SyncDisk.l0 k1 (wrap64 (x4_1+1)) l0_0 l0_1 x405000_1))=some (r1,r2):=H
      have A17:=zz A170
      clear A170
      by_cases c18:t406=true
      ·subst c18
       have H1:(if 0≤((zn l0_1 x4_1).f0) then (if ((zn l0_1 x4_1).f0)<(x405000_1.length:Int) then (spec_SyncDisk.l0 k1 (wrap64 (x4_1+1)) l0_0 l0_1 (x405000_1.set (((zn l0_1 x4_1).f0):Int).toNat ((zn l0_1 x4_1).f1))) else (none)) else (none))=some (r1,r2):=by rw [if_pos rfl] at H;exact H
       clear H
       have H:=H1
       clear H1
       by_cases c19:0≤((zn l0_1 x4_1).f0)
       ·rw [if_pos c19] at H
        have c19b0:decide (0≤((zn l0_1 x4_1).f0))=true:=decide_eq_true c19
        clear c19
        by_cases c20:((zn l0_1 x4_1).f0)<(x405000_1.length:Int)
        ·rw [if_pos c20] at H
         have c20b0:decide (((zn l0_1 x4_1).f0)<(x405000_1.length:Int))=true:=decide_eq_true c20
         clear c20
         obtain ⟨y409,hy409⟩:∃y_:List ByteArray,y_=(x405000_1.set (((zn l0_1 x4_1).f0):Int).toNat ((zn l0_1 x4_1).f1)):=⟨_,rfl⟩
         replace H:(spec_SyncDisk.l0 k1 (wrap64 (x4_1+1)) l0_0 l0_1 y409)=some (r1,r2):=by first|(rw [hy409];with_reducible exact H)|(have H2_:=(Option.bind_some _ _).symm.trans H;rw [hy409];with_reducible exact H2_)|(have H2_:=(Option.bind_some _ _).symm.trans H;with_reducible exact H2_)|with_reducible exact H|(rw [hy409];exact H)|exact H
         have Ny409:=zz hy409
         clear hy409
         have H':=zz H
         clear H
         have hnb22:=NB396_397.out
         have hnc22:=NB397_396.out
         have hnb23:=NB396_404.out
         have hnc23:=NB404_396.out
         have hcz24_0:wr.cell? ⟨gb396,0,none⟩=some (.slice A0_0 l0_0.length c0_0):=(ze BK396.out 0).trans rfl
         have hcz24_1:wr.cell? ⟨gb396,1,none⟩=some (.slice A0_1 l0_1.length c0_1):=(ze BK396.out 1).trans rfl
         have hfz24_0:=zd BK396.out 0
         have hfz24_1:=zd BK396.out 1
         try go_wp2
         have n0_:=zz (Kd.R_drew HO_405000.out)
         have n1_:=zz (zl BK396.out)
         have n2_:=zz (zl BK397.out)
         have n3_:=zz (zl BK404.out)
         have n4_:=zz (zm HB.out)
         clear HO_405000
         clear BK396
         clear BK397
         clear BK404
         clear HB
         have HO_405000:=n0_
         have BK396:=n1_
         have BK397:=n2_
         have BK404:=n3_
         have HB:=n4_
         clear n0_ n1_ n2_ n3_ n4_
         have p405:0≤(x4_1:Int):=of_decide_eq_true zq11
         have q405:x4_1<(l0_1.length:Int):=of_decide_eq_true zq11
         obtain ⟨ad405,e405,hx405_0,hx405_1⟩:=zla HR0_1.out x4_1 p405 q405
         have hw405_1:=hx405_1
         have hw405_0:=hx405_0
         cases e405
         replace hx405_0:=(HB.out.cell (World.block_lt_of_cell? w _ hx405_0)).trans hx405_0
         replace hx405_1:=(HB.out.cell (World.block_lt_of_cell? w _ hx405_1)).trans hx405_1
         replace p405:=eq_true p405
         replace q405:=eq_true q405
         refine zBb (n:=11) (S:=fun w'=>w'.cell? ⟨gb396,0,none⟩=some (.slice A0_0 l0_0.length c0_0)∧w'.cell? ⟨gb396,1,none⟩=some (.slice (some ad405) l0_1.length c0_1)∧w'.cell? (ad405.add ((x4_1).toNat*2))=some (.int .i64 ((zn l0_1 x4_1).f0))∧w'.cell? ⟨(ad405.add ((x4_1).toNat*2)).block,(ad405.add ((x4_1).toNat*2)).off+1,none⟩=some (.string ((zn l0_1 x4_1).f1))) (ds:=[]) #[false,false,false,false,false,false,false,false,false,false,false] zq7 rfl rfl ⟨(ze BK396.out 0).trans rfl,(ze BK396.out 1).trans rfl,((HB.out.cell (World.block_lt_of_cell? w _ hw405_0)).trans hw405_0),((HB.out.cell (World.block_lt_of_cell? w _ hw405_1)).trans hw405_1)⟩ (fun hHeld=> ?_);refine zJa spec_SyncDisk.tab5 spec_SyncDisk.bits5 (fun HT_ HW_=> ?_)
         generalize wr.drew=w25 at HO_405000 BK396 BK397 BK404 HB hx405_0 hx405_1 hHeld ⊢
         refine zX (i:=0) (N:=some 17) (v:= ?_) (a':= ?_) #[true,false,false,false,false,false,false,false,false,false,false] rfl rfl (zP HT_.out zq7) (fun _ _ _ h=>h) (Or.inl ⟨by rfl,?_⟩) ?_ ?_
         rotate_left
         ·intro w'
          go_simp
          with_reducible rfl
         rotate_left
         ·simp only [Act.put,List.setIfInBounds_toArray,List.set_cons_zero,List.set_cons_succ,zA,zF]
          rfl
         refine zX (i:=2) (N:=some 19) (v:= ?_) (a':= ?_) #[true,false,true,false,false,false,false,false,false,false,false] rfl rfl (zP HT_.out zq7) (fun _ _ _ h=>h) (Or.inl ⟨by rfl,?_⟩) ?_ ?_
         rotate_left
         ·intro w'
          go_simp
          with_reducible rfl
         rotate_left
         ·simp only [Act.put,List.setIfInBounds_toArray,List.set_cons_zero,List.set_cons_succ,zA,zF]
          rfl
         refine zX (i:=6) (N:=some 23) (v:= ?_) (a':= ?_) #[true,false,true,false,false,false,true,false,false,false,false] rfl rfl (zP HT_.out zq7) (fun _ _ _ h=>h) (Or.inl ⟨by rfl,?_⟩) ?_ ?_
         rotate_left
         ·intro w'
          go_simp
          with_reducible rfl
         rotate_left
         ·simp only [Act.put,List.setIfInBounds_toArray,List.set_cons_zero,List.set_cons_succ,zA,zF]
          rfl
         refine take_ (i:=1) (N:=some 18) (v:= ?_) (a':= ?_) #[true,true,true,false,false,false,true,false,false,false,false] rfl rfl (zU HT_.out HW_.out zq7) (fun _ _ _ h=>h) (Or.inl ⟨by rfl,?_⟩) hHeld ?_ ?_
         rotate_left
         ·rintro w' ⟨s0,s1,s2,s3⟩
          go_simp
          with_reducible rfl
         rotate_left
         ·simp only [Act.put,List.setIfInBounds_toArray,List.set_cons_zero,List.set_cons_succ,zA,zF]
          rfl
         refine zX (i:=3) (N:=some 20) (v:= ?_) (a':= ?_) #[true,true,true,true,false,false,true,false,false,false,false] rfl rfl (zP HT_.out zq7) (fun _ _ _ h=>h) (Or.inl ⟨by rfl,?_⟩) ?_ ?_
         rotate_left
         ·intro w'
          go_simp
          with_reducible rfl
         rotate_left
         ·simp only [Act.put,List.setIfInBounds_toArray,List.set_cons_zero,List.set_cons_succ,zA,zF]
          rfl
         refine zX (i:=4) (N:=some 21) (v:= ?_) (a':= ?_) #[true,true,true,true,true,false,true,false,false,false,false] rfl rfl (zP HT_.out zq7) (fun _ _ _ h=>h) (Or.inl ⟨by rfl,?_⟩) ?_ ?_
         rotate_left
         ·intro w'
          go_simp
          with_reducible rfl
         rotate_left
         ·simp only [Act.put,List.setIfInBounds_toArray,List.set_cons_zero,List.set_cons_succ,zA,zF]
          rfl
         refine take_ (i:=5) (N:=some 22) (v:= ?_) (a':= ?_) #[true,true,true,true,true,true,true,false,false,false,false] rfl rfl (zU HT_.out HW_.out zq7) (fun _ _ _ h=>h) (Or.inl ⟨by rfl,?_⟩) hHeld ?_ ?_
         rotate_left
         ·rintro w' ⟨s0,s1,s2,s3⟩
          go_simp
          with_reducible rfl
         rotate_left
         ·simp only [Act.put,List.setIfInBounds_toArray,List.set_cons_zero,List.set_cons_succ,zA,zF]
          rfl
         refine take_ (i:=7) (N:=some 24) (v:= ?_) (a':= ?_) #[true,true,true,true,true,true,true,true,false,false,false] rfl rfl (zU HT_.out HW_.out zq7) (fun _ _ _ h=>h) (Or.inl ⟨by rfl,?_⟩) hHeld ?_ ?_
         rotate_left
         ·rintro w' ⟨s0,s1,s2,s3⟩
          go_simp
          with_reducible rfl
         rotate_left
         ·simp only [Act.put,List.setIfInBounds_toArray,List.set_cons_zero,List.set_cons_succ,zA,zF]
          rfl
         refine zX (i:=8) (N:=some 25) (v:= ?_) (a':= ?_) #[true,true,true,true,true,true,true,true,true,false,false] rfl rfl (zP HT_.out zq7) (fun _ _ _ h=>h) (Or.inl ⟨by rfl,?_⟩) ?_ ?_
         rotate_left
         ·intro w'
          go_simp
          with_reducible rfl
         rotate_left
         ·simp only [Act.put,List.setIfInBounds_toArray,List.set_cons_zero,List.set_cons_succ,zA,zF]
          rfl
         refine zX (i:=9) (N:=some 26) (v:= ?_) (a':= ?_) #[true,true,true,true,true,true,true,true,true,true,false] rfl rfl (zP HT_.out zq7) (fun _ _ _ h=>h) (Or.inl ⟨by rfl,?_⟩) ?_ ?_
         rotate_left
         ·intro w'
          go_simp
          with_reducible rfl
         rotate_left
         ·simp only [Act.put,List.setIfInBounds_toArray,List.set_cons_zero,List.set_cons_succ,zA,zF]
          rfl
         refine one_ (i:=10) (N:=some 27) #[true,true,true,true,true,true,true,true,true,true,true] rfl rfl (zHa HT_.out zq7) zq14 (fun K hK=> ?_)
         refine goes_ Tryz.func77 zq7 rfl #[.int .i64 ((zn l0_1 x4_1).f0),.int .i64 0,.int .i64 (wrap64 ((l0_0.length:Int)-1))] zq19 rfl rfl zq4 ?_
         with_reducible refine (spec_l01In.calls ((zn l0_1 x4_1).f0) 0 (wrap64 ((l0_0.length:Int)-1)) true _ A17.out).mono ?_
         rintro e w' ⟨rfl,⟨nd,rfl⟩⟩
         refine ⟨_,rfl,?_⟩
         refine hK.out _ _ ⟨(ze BK396.out 0).trans rfl,(ze BK396.out 1).trans rfl,((HB.out.cell (World.block_lt_of_cell? w _ hw405_0)).trans hw405_0),((HB.out.cell (World.block_lt_of_cell? w _ hw405_1)).trans hw405_1)⟩ (fun hHeld=> ?_)
         clear hK K
         refine zsb (a':= ?_) ?_ ?_
         rotate_left
         ·show Act.put _ (some 27) _=_
          simp only [Act.put,List.setIfInBounds_toArray,List.set_cons_zero,List.set_cons_succ,zA,zF]
          rfl
         refine done_ (zwb HT_.out zq7) ?_
         try go_wp2
         (try (rw [drewN_self w25];generalize hq_:World.drewN w25 _=w25;have n0_:Z0 (Kd.R Kd.string 9 w25 w.heap.size (fun _=>True) u405000 x405000_1):=⟨by rw [←hq_];exact (zq9 HO_405000.out)⟩;have n1_:Z0 (w25.heap[gb396]?=some (.cells #[.slice A0_0 l0_0.length c0_0,.slice (some ad405) l0_1.length c0_1] 37 (0,0))):=⟨by rw [←hq_];exact (zq0 BK396.out)⟩;have n2_:Z0 (w25.heap[gb397]?=some (.cells #[.slice none 0 0,.slice none 0 0] 37 (0,0))):=⟨by rw [←hq_];exact (zq0 BK397.out)⟩;have n3_:Z0 (w25.heap[gb404]?=some (.cells #[u405000,.slice none 0 0] 37 (0,0))):=⟨by rw [←hq_];exact (zq0 BK404.out)⟩;have n4_:Z0 (Below w.heap.size w w25):=⟨by rw [←hq_];exact (zq6 GE396.out GE397.out GE404.out)⟩;clear HO_405000 BK396 BK397 BK404 HB hq_;have HO_405000:=n0_;have BK396:=n1_;have BK397:=n2_;have BK404:=n3_;have HB:=n4_;clear n0_ n1_ n2_ n3_ n4_))
         have n0_:=zz (Kd.R_drew HO_405000.out)
         have n1_:=zz (zl BK396.out)
         have n2_:=zz (zl BK397.out)
         have n3_:=zz (zl BK404.out)
         have n4_:=zz (zm HB.out)
         clear HO_405000
         clear BK396
         clear BK397
         clear BK404
         clear HB
         have HO_405000:=n0_
         have BK396:=n1_
         have BK397:=n2_
         have BK404:=n3_
         have HB:=n4_
         clear n0_ n1_ n2_ n3_ n4_
         have p407:0≤(x4_1:Int):=of_decide_eq_true zq11
         have q407:x4_1<(l0_1.length:Int):=of_decide_eq_true zq11
         obtain ⟨ad407,e407,hx407_0,hx407_1⟩:=zla HR0_1.out x4_1 p407 q407
         have hw407_1:=hx407_1
         have hw407_0:=hx407_0
         obtain rfl:ad405=ad407:=(by injection e407)
         replace hx407_0:=(HB.out.cell (World.block_lt_of_cell? w _ hx407_0)).trans hx407_0
         replace hx407_1:=(HB.out.cell (World.block_lt_of_cell? w _ hx407_1)).trans hx407_1
         replace p407:=eq_true p407
         replace q407:=eq_true q407
         have p408:0≤(x4_1:Int):=of_decide_eq_true zq11
         have q408:x4_1<(l0_1.length:Int):=of_decide_eq_true zq11
         obtain ⟨ad408,e408,hx408_0,hx408_1⟩:=zla HR0_1.out x4_1 p408 q408
         have hw408_1:=hx408_1
         have hw408_0:=hx408_0
         obtain rfl:ad405=ad408:=(by injection e408)
         replace hx408_0:=(HB.out.cell (World.block_lt_of_cell? w _ hx408_0)).trans hx408_0
         replace hx408_1:=(HB.out.cell (World.block_lt_of_cell? w _ hx408_1)).trans hx408_1
         replace p408:=eq_true p408
         replace q408:=eq_true q408
         have p21:0≤(((zn l0_1 x4_1).f0):Int):=of_decide_eq_true zq11
         have q21:(((zn l0_1 x4_1).f0):Int)<((x405000_1.length:Int):Int):=of_decide_eq_true zq11
         obtain ⟨go21,co21,eo21,gb21,gl21,cl21,HG21⟩:=Kd.R_form HO_405000.out zq5
         (first|cases eo21|(injection eo21 with ea_ en_ ec_;(first|subst ea_|(injection ea_ with ea_;subst ea_));subst ec_;clear en_))
         have GB21:=zz gb21
         have GG21:=zz HG21
         clear gb21 gl21 HG21
         obtain ⟨hx21_0,hf21_0⟩:=Kd.R_celln (⟨#[]⟩:ByteArray) HO_405000.out (((zn l0_1 x4_1).f0):Int) p21 q21
         replace p21:=eq_true p21
         replace q21:=eq_true q21
         have HP27:=Kd.R_putn HO_405000.out (((zn l0_1 x4_1).f0):Int) ((zn l0_1 x4_1).f1)
         rw [←Ny409.out] at HP27
         have HQ27:=zz HP27
         clear HP27
         refine zBb (n:=16) (S:=fun w'=>w'.cell? ⟨gb404,0,none⟩=some (.slice (some ⟨go21,0,none⟩) x405000_1.length co21)∧w'.cell? ⟨gb404,1,none⟩=some (.slice none 0 0)∧w'.cell? ⟨gb396,0,none⟩=some (.slice A0_0 l0_0.length c0_0)∧w'.cell? ⟨gb396,1,none⟩=some (.slice (some ad405) l0_1.length c0_1)∧w'.cell? (ad405.add ((x4_1).toNat*2))=some (.int .i64 ((zn l0_1 x4_1).f0))∧w'.cell? ⟨(ad405.add ((x4_1).toNat*2)).block,(ad405.add ((x4_1).toNat*2)).off+1,none⟩=some (.string ((zn l0_1 x4_1).f1))∧w'.cell? (ad405.add ((x4_1).toNat*2))=some (.int .i64 ((zn l0_1 x4_1).f0))∧w'.cell? ⟨(ad405.add ((x4_1).toNat*2)).block,(ad405.add ((x4_1).toNat*2)).off+1,none⟩=some (.string ((zn l0_1 x4_1).f1))) (ds:=[15]) #[false,false,false,false,false,false,false,false,false,false,false,false,false,false,false,false] zq7 rfl rfl ⟨(ze BK404.out 0).trans rfl,(ze BK404.out 1).trans rfl,(ze BK396.out 0).trans rfl,(ze BK396.out 1).trans rfl,((HB.out.cell (World.block_lt_of_cell? w _ hw407_0)).trans hw407_0),((HB.out.cell (World.block_lt_of_cell? w _ hw407_1)).trans hw407_1),((HB.out.cell (World.block_lt_of_cell? w _ hw408_0)).trans hw408_0),((HB.out.cell (World.block_lt_of_cell? w _ hw408_1)).trans hw408_1)⟩ (fun hHeld=> ?_);refine zJa spec_SyncDisk.tab6 spec_SyncDisk.bits6 (fun HT_ HW_=> ?_)
         generalize w25.drew=w26 at HO_405000 BK396 BK397 BK404 HB GG21 HQ27 hf21_0 hx21_0 hx407_0 hx407_1 hx408_0 hx408_1 hHeld ⊢
         refine zX (i:=0) (N:=some 28) (v:= ?_) (a':= ?_) #[true,false,false,false,false,false,false,false,false,false,false,false,false,false,false,false] rfl rfl (zP HT_.out zq7) (fun _ _ _ h=>h) (Or.inl ⟨by rfl,?_⟩) ?_ ?_
         rotate_left
         ·intro w'
          go_simp
          with_reducible rfl
         rotate_left
         ·simp only [Act.put,List.setIfInBounds_toArray,List.set_cons_zero,List.set_cons_succ,zA,zF]
          rfl
         refine zX (i:=2) (N:=some 30) (v:= ?_) (a':= ?_) #[true,false,true,false,false,false,false,false,false,false,false,false,false,false,false,false] rfl rfl (zP HT_.out zq7) (fun _ _ _ h=>h) (Or.inl ⟨by rfl,?_⟩) ?_ ?_
         rotate_left
         ·intro w'
          go_simp
          with_reducible rfl
         rotate_left
         ·simp only [Act.put,List.setIfInBounds_toArray,List.set_cons_zero,List.set_cons_succ,zA,zF]
          rfl
         refine zX (i:=4) (N:=some 32) (v:= ?_) (a':= ?_) #[true,false,true,false,true,false,false,false,false,false,false,false,false,false,false,false] rfl rfl (zP HT_.out zq7) (fun _ _ _ h=>h) (Or.inl ⟨by rfl,?_⟩) ?_ ?_
         rotate_left
         ·intro w'
          go_simp
          with_reducible rfl
         rotate_left
         ·simp only [Act.put,List.setIfInBounds_toArray,List.set_cons_zero,List.set_cons_succ,zA,zF]
          rfl
         refine zX (i:=8) (N:=some 36) (v:= ?_) (a':= ?_) #[true,false,true,false,true,false,false,false,true,false,false,false,false,false,false,false] rfl rfl (zP HT_.out zq7) (fun _ _ _ h=>h) (Or.inl ⟨by rfl,?_⟩) ?_ ?_
         rotate_left
         ·intro w'
          go_simp
          with_reducible rfl
         rotate_left
         ·simp only [Act.put,List.setIfInBounds_toArray,List.set_cons_zero,List.set_cons_succ,zA,zF]
          rfl
         refine zX (i:=10) (N:=some 38) (v:= ?_) (a':= ?_) #[true,false,true,false,true,false,false,false,true,false,true,false,false,false,false,false] rfl rfl (zP HT_.out zq7) (fun _ _ _ h=>h) (Or.inl ⟨by rfl,?_⟩) ?_ ?_
         rotate_left
         ·intro w'
          go_simp
          with_reducible rfl
         rotate_left
         ·simp only [Act.put,List.setIfInBounds_toArray,List.set_cons_zero,List.set_cons_succ,zA,zF]
          rfl
         refine take_ (i:=1) (N:=some 29) (v:= ?_) (a':= ?_) #[true,true,true,false,true,false,false,false,true,false,true,false,false,false,false,false] rfl rfl (zU HT_.out HW_.out zq7) (fun _ _ _ h=>h) (Or.inl ⟨by rfl,?_⟩) hHeld ?_ ?_
         rotate_left
         ·rintro w' ⟨s0,s1,s2,s3,s4,s5,s6,s7⟩
          go_simp
          with_reducible rfl
         rotate_left
         ·simp only [Act.put,List.setIfInBounds_toArray,List.set_cons_zero,List.set_cons_succ,zA,zF]
          rfl
         refine take_ (i:=3) (N:=some 31) (v:= ?_) (a':= ?_) #[true,true,true,true,true,false,false,false,true,false,true,false,false,false,false,false] rfl rfl (zU HT_.out HW_.out zq7) (fun _ _ _ h=>h) (Or.inl ⟨by rfl,?_⟩) hHeld ?_ ?_
         rotate_left
         ·rintro w' ⟨s0,s1,s2,s3,s4,s5,s6,s7⟩
          go_simp
          with_reducible rfl
         rotate_left
         ·simp only [Act.put,List.setIfInBounds_toArray,List.set_cons_zero,List.set_cons_succ,zA,zF]
          rfl
         refine zX (i:=5) (N:=some 33) (v:= ?_) (a':= ?_) #[true,true,true,true,true,true,false,false,true,false,true,false,false,false,false,false] rfl rfl (zP HT_.out zq7) (fun _ _ _ h=>h) (Or.inl ⟨by rfl,?_⟩) ?_ ?_
         rotate_left
         ·intro w'
          go_simp
          with_reducible rfl
         rotate_left
         ·simp only [Act.put,List.setIfInBounds_toArray,List.set_cons_zero,List.set_cons_succ,zA,zF]
          rfl
         refine zX (i:=6) (N:=some 34) (v:= ?_) (a':= ?_) #[true,true,true,true,true,true,true,false,true,false,true,false,false,false,false,false] rfl rfl (zP HT_.out zq7) (fun _ _ _ h=>h) (Or.inl ⟨by rfl,?_⟩) ?_ ?_
         rotate_left
         ·intro w'
          go_simp
          with_reducible rfl
         rotate_left
         ·simp only [Act.put,List.setIfInBounds_toArray,List.set_cons_zero,List.set_cons_succ,zA,zF]
          rfl
         refine take_ (i:=7) (N:=some 35) (v:= ?_) (a':= ?_) #[true,true,true,true,true,true,true,true,true,false,true,false,false,false,false,false] rfl rfl (zU HT_.out HW_.out zq7) (fun _ _ _ h=>h) (Or.inl ⟨by rfl,?_⟩) hHeld ?_ ?_
         rotate_left
         ·rintro w' ⟨s0,s1,s2,s3,s4,s5,s6,s7⟩
          go_simp
          with_reducible rfl
         rotate_left
         ·simp only [Act.put,List.setIfInBounds_toArray,List.set_cons_zero,List.set_cons_succ,zA,zF]
          rfl
         refine take_ (i:=9) (N:=some 37) (v:= ?_) (a':= ?_) #[true,true,true,true,true,true,true,true,true,true,true,false,false,false,false,false] rfl rfl (zU HT_.out HW_.out zq7) (fun _ _ _ h=>h) (Or.inl ⟨by rfl,?_⟩) hHeld ?_ ?_
         rotate_left
         ·rintro w' ⟨s0,s1,s2,s3,s4,s5,s6,s7⟩
          go_simp
          with_reducible rfl
         rotate_left
         ·simp only [Act.put,List.setIfInBounds_toArray,List.set_cons_zero,List.set_cons_succ,zA,zF]
          rfl
         refine zX (i:=11) (N:=some 39) (v:= ?_) (a':= ?_) #[true,true,true,true,true,true,true,true,true,true,true,true,false,false,false,false] rfl rfl (zP HT_.out zq7) (fun _ _ _ h=>h) (Or.inl ⟨by rfl,?_⟩) ?_ ?_
         rotate_left
         ·intro w'
          go_simp
          with_reducible rfl
         rotate_left
         ·simp only [Act.put,List.setIfInBounds_toArray,List.set_cons_zero,List.set_cons_succ,zA,zF]
          rfl
         refine zX (i:=12) (N:=some 40) (v:= ?_) (a':= ?_) #[true,true,true,true,true,true,true,true,true,true,true,true,true,false,false,false] rfl rfl (zP HT_.out zq7) (fun _ _ _ h=>h) (Or.inl ⟨by rfl,?_⟩) ?_ ?_
         rotate_left
         ·intro w'
          go_simp
          with_reducible rfl
         rotate_left
         ·simp only [Act.put,List.setIfInBounds_toArray,List.set_cons_zero,List.set_cons_succ,zA,zF]
          rfl
         refine take_ (i:=13) (N:=some 41) (v:= ?_) (a':= ?_) #[true,true,true,true,true,true,true,true,true,true,true,true,true,true,false,false] rfl rfl (zU HT_.out HW_.out zq7) (fun _ _ _ h=>h) (Or.inl ⟨by rfl,?_⟩) hHeld ?_ ?_
         rotate_left
         ·rintro w' ⟨s0,s1,s2,s3,s4,s5,s6,s7⟩
          go_simp
          with_reducible rfl
         rotate_left
         ·simp only [Act.put,List.setIfInBounds_toArray,List.set_cons_zero,List.set_cons_succ,zA,zF]
          rfl
         refine zX (i:=14) (N:=some 42) (v:= ?_) (a':= ?_) #[true,true,true,true,true,true,true,true,true,true,true,true,true,true,true,false] rfl rfl (zP HT_.out zq7) (fun _ _ _ h=>h) (Or.inl ⟨by rfl,?_⟩) ?_ ?_
         rotate_left
         ·intro w'
          go_simp
          with_reducible rfl
         rotate_left
         ·simp only [Act.put,List.setIfInBounds_toArray,List.set_cons_zero,List.set_cons_succ,zA,zF]
          rfl
         refine last_ (i:=15) (N:=none) #[true,true,true,true,true,true,true,true,true,true,true,true,true,true,true,true] rfl rfl (zHa HT_.out zq7) zq14 (fun K hK=> ?_)
         refine skip_ (w1:= ?_) zq19 rfl ?_ ?_
         rotate_left
         ·go_simp
          rfl
         refine hK.out _ _ ?_
         clear hK K
         refine done_ (zwb HT_.out zq7) ?_
         try go_wp2
         go_roundg k1
         case measure=>have:=HK1.out;omega
         case rel=>exact ⟨(wrap64 (x4_1+1)),(y409),(.slice (some ⟨go21,0,none⟩) x405000_1.length co21),zq12,H',⟨by have:=HK1.out;omega⟩,⟨by (with_reducible repeat (first|apply Kd.R_alloc|apply Kd.R_drewN|apply Kd.R_drew));exact HQ27.out⟩,⟨by (with_reducible repeat (first|refine zj ?_ _|refine zl ?_|refine zh ?_ _));refine zH ?_ (zq30 HO_405000.out BK396.out) _;(with_reducible repeat (first|refine zj ?_ _|refine zl ?_|refine zh ?_ _));exact BK396.out⟩,⟨by (with_reducible repeat (first|refine zj ?_ _|refine zl ?_|refine zh ?_ _));refine zH ?_ (zq30 HO_405000.out BK397.out) _;(with_reducible repeat (first|refine zj ?_ _|refine zl ?_|refine zh ?_ _));exact BK397.out⟩,⟨by (with_reducible repeat (first|refine zj ?_ _|refine zl ?_|refine zh ?_ _));refine zH ?_ (zq30 HO_405000.out BK404.out) _;(with_reducible repeat (first|refine zj ?_ _|refine zl ?_|refine zh ?_ _));exact BK404.out⟩,⟨by repeat (first|(with_reducible first|exact HB.out|apply zg|apply zf|apply zm|refine zr ?_ GB21.out|refine zr ?_ GE396.out|refine zr ?_ GE397.out|refine zr ?_ GE404.out)|exact HB.out)⟩⟩
        ·rw [if_neg c20] at H
         exact absurd H zq15
       ·rw [if_neg c19] at H
        exact absurd H zq15
      ·replace c18:=Bool.eq_false_iff.mpr c18
       subst c18
       have H1:(spec_SyncDisk.l0 k1 (wrap64 (x4_1+1)) l0_0 l0_1 x405000_1)=some (r1,r2):=by rw [if_neg (show ¬(false=true) by decide)] at H;exact H
       clear H
       have H:=H1
       clear H1
       have H':=zz H
       clear H
       have hnb28:=NB396_397.out
       have hnc28:=NB397_396.out
       have hnb29:=NB396_404.out
       have hnc29:=NB404_396.out
       have hcz30_0:wr.cell? ⟨gb396,0,none⟩=some (.slice A0_0 l0_0.length c0_0):=(ze BK396.out 0).trans rfl
       have hcz30_1:wr.cell? ⟨gb396,1,none⟩=some (.slice A0_1 l0_1.length c0_1):=(ze BK396.out 1).trans rfl
       have hfz30_0:=zd BK396.out 0
       have hfz30_1:=zd BK396.out 1
       try go_wp2
       have n0_:=zz (Kd.R_drew HO_405000.out)
       have n1_:=zz (zl BK396.out)
       have n2_:=zz (zl BK397.out)
       have n3_:=zz (zl BK404.out)
       have n4_:=zz (zm HB.out)
       clear HO_405000
       clear BK396
       clear BK397
       clear BK404
       clear HB
       have HO_405000:=n0_
       have BK396:=n1_
       have BK397:=n2_
       have BK404:=n3_
       have HB:=n4_
       clear n0_ n1_ n2_ n3_ n4_
       have p405:0≤(x4_1:Int):=of_decide_eq_true zq11
       have q405:x4_1<(l0_1.length:Int):=of_decide_eq_true zq11
       obtain ⟨ad405,e405,hx405_0,hx405_1⟩:=zla HR0_1.out x4_1 p405 q405
       have hw405_1:=hx405_1
       have hw405_0:=hx405_0
       cases e405
       replace hx405_0:=(HB.out.cell (World.block_lt_of_cell? w _ hx405_0)).trans hx405_0
       replace hx405_1:=(HB.out.cell (World.block_lt_of_cell? w _ hx405_1)).trans hx405_1
       replace p405:=eq_true p405
       replace q405:=eq_true q405
       refine zBb (n:=11) (S:=fun w'=>w'.cell? ⟨gb396,0,none⟩=some (.slice A0_0 l0_0.length c0_0)∧w'.cell? ⟨gb396,1,none⟩=some (.slice (some ad405) l0_1.length c0_1)∧w'.cell? (ad405.add ((x4_1).toNat*2))=some (.int .i64 ((zn l0_1 x4_1).f0))∧w'.cell? ⟨(ad405.add ((x4_1).toNat*2)).block,(ad405.add ((x4_1).toNat*2)).off+1,none⟩=some (.string ((zn l0_1 x4_1).f1))) (ds:=[]) #[false,false,false,false,false,false,false,false,false,false,false] zq7 rfl rfl ⟨(ze BK396.out 0).trans rfl,(ze BK396.out 1).trans rfl,((HB.out.cell (World.block_lt_of_cell? w _ hw405_0)).trans hw405_0),((HB.out.cell (World.block_lt_of_cell? w _ hw405_1)).trans hw405_1)⟩ (fun hHeld=> ?_);refine zJa spec_SyncDisk.tab5 spec_SyncDisk.bits5 (fun HT_ HW_=> ?_)
       generalize wr.drew=w31 at HO_405000 BK396 BK397 BK404 HB hx405_0 hx405_1 hHeld ⊢
       refine zX (i:=0) (N:=some 17) (v:= ?_) (a':= ?_) #[true,false,false,false,false,false,false,false,false,false,false] rfl rfl (zP HT_.out zq7) (fun _ _ _ h=>h) (Or.inl ⟨by rfl,?_⟩) ?_ ?_
       rotate_left
       ·intro w'
        go_simp
        with_reducible rfl
       rotate_left
       ·simp only [Act.put,List.setIfInBounds_toArray,List.set_cons_zero,List.set_cons_succ,zA,zF]
        rfl
       refine zX (i:=2) (N:=some 19) (v:= ?_) (a':= ?_) #[true,false,true,false,false,false,false,false,false,false,false] rfl rfl (zP HT_.out zq7) (fun _ _ _ h=>h) (Or.inl ⟨by rfl,?_⟩) ?_ ?_
       rotate_left
       ·intro w'
        go_simp
        with_reducible rfl
       rotate_left
       ·simp only [Act.put,List.setIfInBounds_toArray,List.set_cons_zero,List.set_cons_succ,zA,zF]
        rfl
       refine zX (i:=6) (N:=some 23) (v:= ?_) (a':= ?_) #[true,false,true,false,false,false,true,false,false,false,false] rfl rfl (zP HT_.out zq7) (fun _ _ _ h=>h) (Or.inl ⟨by rfl,?_⟩) ?_ ?_
       rotate_left
       ·intro w'
        go_simp
        with_reducible rfl
       rotate_left
       ·simp only [Act.put,List.setIfInBounds_toArray,List.set_cons_zero,List.set_cons_succ,zA,zF]
        rfl
       refine take_ (i:=1) (N:=some 18) (v:= ?_) (a':= ?_) #[true,true,true,false,false,false,true,false,false,false,false] rfl rfl (zU HT_.out HW_.out zq7) (fun _ _ _ h=>h) (Or.inl ⟨by rfl,?_⟩) hHeld ?_ ?_
       rotate_left
       ·rintro w' ⟨s0,s1,s2,s3⟩
        go_simp
        with_reducible rfl
       rotate_left
       ·simp only [Act.put,List.setIfInBounds_toArray,List.set_cons_zero,List.set_cons_succ,zA,zF]
        rfl
       refine zX (i:=3) (N:=some 20) (v:= ?_) (a':= ?_) #[true,true,true,true,false,false,true,false,false,false,false] rfl rfl (zP HT_.out zq7) (fun _ _ _ h=>h) (Or.inl ⟨by rfl,?_⟩) ?_ ?_
       rotate_left
       ·intro w'
        go_simp
        with_reducible rfl
       rotate_left
       ·simp only [Act.put,List.setIfInBounds_toArray,List.set_cons_zero,List.set_cons_succ,zA,zF]
        rfl
       refine zX (i:=4) (N:=some 21) (v:= ?_) (a':= ?_) #[true,true,true,true,true,false,true,false,false,false,false] rfl rfl (zP HT_.out zq7) (fun _ _ _ h=>h) (Or.inl ⟨by rfl,?_⟩) ?_ ?_
       rotate_left
       ·intro w'
        go_simp
        with_reducible rfl
       rotate_left
       ·simp only [Act.put,List.setIfInBounds_toArray,List.set_cons_zero,List.set_cons_succ,zA,zF]
        rfl
       refine take_ (i:=5) (N:=some 22) (v:= ?_) (a':= ?_) #[true,true,true,true,true,true,true,false,false,false,false] rfl rfl (zU HT_.out HW_.out zq7) (fun _ _ _ h=>h) (Or.inl ⟨by rfl,?_⟩) hHeld ?_ ?_
       rotate_left
       ·rintro w' ⟨s0,s1,s2,s3⟩
        go_simp
        with_reducible rfl
       rotate_left
       ·simp only [Act.put,List.setIfInBounds_toArray,List.set_cons_zero,List.set_cons_succ,zA,zF]
        rfl
       refine take_ (i:=7) (N:=some 24) (v:= ?_) (a':= ?_) #[true,true,true,true,true,true,true,true,false,false,false] rfl rfl (zU HT_.out HW_.out zq7) (fun _ _ _ h=>h) (Or.inl ⟨by rfl,?_⟩) hHeld ?_ ?_
       rotate_left
       ·rintro w' ⟨s0,s1,s2,s3⟩
        go_simp
        with_reducible rfl
       rotate_left
       ·simp only [Act.put,List.setIfInBounds_toArray,List.set_cons_zero,List.set_cons_succ,zA,zF]
        rfl
       refine zX (i:=8) (N:=some 25) (v:= ?_) (a':= ?_) #[true,true,true,true,true,true,true,true,true,false,false] rfl rfl (zP HT_.out zq7) (fun _ _ _ h=>h) (Or.inl ⟨by rfl,?_⟩) ?_ ?_
       rotate_left
       ·intro w'
        go_simp
        with_reducible rfl
       rotate_left
       ·simp only [Act.put,List.setIfInBounds_toArray,List.set_cons_zero,List.set_cons_succ,zA,zF]
        rfl
       refine zX (i:=9) (N:=some 26) (v:= ?_) (a':= ?_) #[true,true,true,true,true,true,true,true,true,true,false] rfl rfl (zP HT_.out zq7) (fun _ _ _ h=>h) (Or.inl ⟨by rfl,?_⟩) ?_ ?_
       rotate_left
       ·intro w'
        go_simp
        with_reducible rfl
       rotate_left
       ·simp only [Act.put,List.setIfInBounds_toArray,List.set_cons_zero,List.set_cons_succ,zA,zF]
        rfl
       refine one_ (i:=10) (N:=some 27) #[true,true,true,true,true,true,true,true,true,true,true] rfl rfl (zHa HT_.out zq7) zq14 (fun K hK=> ?_)
       refine goes_ Tryz.func77 zq7 rfl #[.int .i64 ((zn l0_1 x4_1).f0),.int .i64 0,.int .i64 (wrap64 ((l0_0.length:Int)-1))] zq19 rfl rfl zq4 ?_
       with_reducible refine (spec_l01In.calls ((zn l0_1 x4_1).f0) 0 (wrap64 ((l0_0.length:Int)-1)) false _ A17.out).mono ?_
       rintro e w' ⟨rfl,⟨nd,rfl⟩⟩
       refine ⟨_,rfl,?_⟩
       refine hK.out _ _ ⟨(ze BK396.out 0).trans rfl,(ze BK396.out 1).trans rfl,((HB.out.cell (World.block_lt_of_cell? w _ hw405_0)).trans hw405_0),((HB.out.cell (World.block_lt_of_cell? w _ hw405_1)).trans hw405_1)⟩ (fun hHeld=> ?_)
       clear hK K
       refine zsb (a':= ?_) ?_ ?_
       rotate_left
       ·show Act.put _ (some 27) _=_
        simp only [Act.put,List.setIfInBounds_toArray,List.set_cons_zero,List.set_cons_succ,zA,zF]
        rfl
       refine done_ (zwb HT_.out zq7) ?_
       try go_wp2
       go_roundg k1
       case measure=>have:=HK1.out;omega
       case rel=>exact ⟨(wrap64 (x4_1+1)),(x405000_1),(u405000),zq12,H',⟨by have:=HK1.out;omega⟩,⟨by (with_reducible repeat (first|apply Kd.R_alloc|apply Kd.R_drewN|apply Kd.R_drew));exact HO_405000.out⟩,⟨by (with_reducible repeat (first|refine zj ?_ _|refine zl ?_|refine zh ?_ _));exact BK396.out⟩,⟨by (with_reducible repeat (first|refine zj ?_ _|refine zl ?_|refine zh ?_ _));exact BK397.out⟩,⟨by (with_reducible repeat (first|refine zj ?_ _|refine zl ?_|refine zh ?_ _));exact BK404.out⟩,⟨by repeat (first|(with_reducible first|exact HB.out|apply zg|apply zf|apply zm|refine zr ?_ GE396.out|refine zr ?_ GE397.out|refine zr ?_ GE404.out)|exact HB.out)⟩⟩
     ·rw [if_neg c16] at H
      exact absurd H zq15
    ·rw [if_neg c15] at H
     have c15b0:decide (x4_1<(l0_1.length:Int))=false:=decide_eq_false c15
     clear c15
     simp only [Option.some.injEq,Prod.mk.injEq] at H
     obtain ⟨rfl,rfl⟩:=H
     have hnb32:=NB396_397.out
     have hnc32:=NB397_396.out
     have hnb33:=NB396_404.out
     have hnc33:=NB404_396.out
     have hcz34_0:wr.cell? ⟨gb396,0,none⟩=some (.slice A0_0 l0_0.length c0_0):=(ze BK396.out 0).trans rfl
     have hcz34_1:wr.cell? ⟨gb396,1,none⟩=some (.slice A0_1 l0_1.length c0_1):=(ze BK396.out 1).trans rfl
     have hfz34_0:=zd BK396.out 0
     have hfz34_1:=zd BK396.out 1
     have hnb35:=NB404_397.out
     have hnc35:=NB397_404.out
     have hcz36_0:wr.cell? ⟨gb404,0,none⟩=some (u405000):=(ze BK404.out 0).trans rfl
     have hcz36_1:wr.cell? ⟨gb404,1,none⟩=some (.slice none 0 0):=(ze BK404.out 1).trans rfl
     have hfz36_0:=zd BK404.out 0
     have hfz36_1:=zd BK404.out 1
     obtain ⟨Ao37,co37,eo37⟩:=Kd.R_slice HO_405000.out
     subst eo37
     have hcz38_0:wr.cell? ⟨gb397,0,none⟩=some (.slice none 0 0):=(ze BK397.out 0).trans rfl
     have hcz38_1:wr.cell? ⟨gb397,1,none⟩=some (.slice none 0 0):=(ze BK397.out 1).trans rfl
     have hfz38_0:=zd BK397.out 0
     have hfz38_1:=zd BK397.out 1
     go_wp2
     refine bodyPost_ret (results_cell_row rfl _ _ gb397 37 #[.slice Ao37 x405000_1.length co37,.slice none 0 0] (0,0) _ rfl (by (with_reducible repeat (first|refine zj ?_ _|refine zl ?_|refine zh ?_ _));refine zL (cs:= #[.slice Ao37 x405000_1.length co37,.slice none 0 0]) ?_ 1 _ rfl;(with_reducible repeat (first|refine zj ?_ _|refine zl ?_|refine zh ?_ _));refine zL (cs:= #[.slice none 0 0,.slice none 0 0]) ?_ 0 _ rfl;(with_reducible repeat (first|refine zj ?_ _|refine zl ?_|refine zh ?_ _));exact BK397.out) Tryz.underlying37 rfl zq7) rfl ?_
     exact ⟨_,_,by first|rfl|(simp [zx,zw]<;>rfl)|(simp [*,zx,zw]<;>rfl),by (with_reducible repeat (first|apply Kd.R_alloc|apply Kd.R_drewN|apply Kd.R_drew));exact Kd.R_mono (Kd.R_far (p:=⟨gb397,1,none⟩) (Kd.R_far (p:=⟨gb397,0,none⟩) (Kd.R_types HO_405000.out BK397.out zq14) (fun _ hk=>hk.2) (.slice Ao37 x405000_1.length co37)) (fun _ hk=>hk.2) (.slice none 0 0)) (fun _ hk=>trivial),by first|exact Kd.R_nil _ _ _ _ _|exact Kd.N_nil _ _ _ _ _|exact Kd.V_nil _ _ _ _ _|exact Kd.Q_nil _ _ _ _ _|exact Kd.S_nil _ _ _ _ _,by repeat (first|(with_reducible first|exact HB.out|apply zg|apply zf|apply zm|refine zr ?_ GE396.out|refine zr ?_ GE397.out|refine zr ?_ GE404.out)|exact HB.out)⟩
 ·rw [if_neg c2] at H
  exact absurd H zq15
def impl_in.f (a0:Int) (a1:Int) (a2:Int):Option (Bool):=if a0≥a1 then (some (decide (a0≤a2))) else (some false)
theorem impl_in.calls (a0:Int) (a1:Int) (a2:Int) (r:Bool) (w:World) (h:impl_in.f a0 a1 a2=some r):
  Calls Tryz.prog 118 #[.int .i64 a0,.int .i64 a1,.int .i64 a2] w fun e w'=>e= .returned (.bool r)∧Drawn0 w w':=by
 have H:(if a0≥a1 then (some (decide (a0≤a2))) else (some false))=some r:=h
 clear h
 by_cases c4:a0≥a1
 ·rw [if_pos c4] at H
  have c4b0:decide (a1≤a0)=true:=decide_eq_true c4
  clear c4
  obtain rfl:=Option.some.inj H
  go_enter Tryz.func118,Tryz.ntmps118
  go_wp2
  go_ret
  exact ⟨by first|rfl|(simp;done)|(simp [*];done),by repeat (first|exact Drawn0.refl _|apply Drawn0.step)⟩
 ·rw [if_neg c4] at H
  have c4b0:decide (a1≤a0)=false:=decide_eq_false c4
  clear c4
  obtain rfl:=Option.some.inj H
  go_enter Tryz.func118,Tryz.ntmps118
  go_wp2
  go_ret
  exact ⟨by first|rfl|(simp;done)|(simp [*];done),by repeat (first|exact Drawn0.refl _|apply Drawn0.step)⟩
def impl_isPage.f (l0_0:List ByteArray) (l0_1:List (S110)) (a1:Int):Option (Bool):=(impl_in.f a1 0 (wrap64 ((l0_0.length:Int)-1))).bind fun t470=>(some t470)
theorem impl_isPage.calls (A0_0:Option Addr) (c0_0:Nat) (l0_0:List ByteArray) (A0_1:Option Addr) (c0_1:Nat) (l0_1:List (S110)) (a1:Int) (r:Bool) (w:World) (hr0_0:Kd.C Kd.string w A0_0 l0_0.length l0_0) (hc0_0:l0_0.length≤c0_0) (hr0_1:Kd.C k110 w A0_1 l0_1.length l0_1) (hc0_1:l0_1.length≤c0_1) (h:impl_isPage.f l0_0 l0_1 a1=some r):
  Calls Tryz.prog 86 #[.agg #[.slice A0_0 l0_0.length c0_0,.slice A0_1 l0_1.length c0_1],.int .i64 a1] w fun e w'=>e= .returned (.bool r)∧Below w.heap.size w w':=by
 have hu32:=Tryz.underlying37
 have HR0_0:=zz hr0_0
 have HC0_0:=zz hc0_0
 clear hr0_0 hc0_0
 have HR0_1:=zz hr0_1
 have HC0_1:=zz hc0_1
 clear hr0_1 hc0_1
 have HB:=zz (Below.refl w.heap.size w)
 have H:((impl_in.f a1 0 (wrap64 ((l0_0.length:Int)-1))).bind fun t470=>(some t470))=some r:=h
 clear h
 replace H:=Option.bind_eq_some_iff.mp H
 obtain ⟨t470,A30,H⟩:=H
 replace H:(some t470)=some r:=H
 have A3:=zz A30
 clear A30
 obtain rfl:=Option.some.inj H
 go_enter Tryz.func86,Tryz.ntmps86
 go_wp2_with (first|((with_reducible refine zv (N:=2) rfl ?_);refine zE ?hg (N:=2) ?hd (cs:= #[.slice A0_0 l0_0.length c0_0,.slice A0_1 l0_1.length c0_1]) (t:=37) ?hr ?_;(case hd=>rfl);(case hg=>rfl);(case hr=>first|(go_simp;done)|(go_simp;rfl));intro gb469 hg w4 hbox hb;have n0_:=zz (zk zq1 hb);have n1_:=zz (hbox);have n2_:=zz ((by rw [hg];exact (zi zq1):w.heap.size≤gb469));have n3_:=zz ((by rw [hg];exact (zi zq1):w.heap.size≤gb469));clear HB;have HB:=n0_;have BK469:=n1_;have GW469:=n2_;have GE469:=n3_;clear n0_ n1_ n2_ n3_;clear hb hbox hg;have hcz5_0:w4.cell? ⟨gb469,0,none⟩=some (.slice A0_0 l0_0.length c0_0):=(ze BK469.out 0).trans rfl;have hcz5_1:w4.cell? ⟨gb469,1,none⟩=some (.slice A0_1 l0_1.length c0_1):=(ze BK469.out 1).trans rfl;have hfz5_0:=zd BK469.out 0;have hfz5_1:=zd BK469.out 1)|((with_reducible refine zB (f:=118) rfl ?_);refine zO (some 10) rfl rfl Tryz.func118 zq7 rfl #[.int .i64 a1,.int .i64 0,.int .i64 (wrap64 ((l0_0.length:Int)-1))] rfl zq4 ?_;(with_reducible refine (impl_in.calls a1 0 (wrap64 ((l0_0.length:Int)-1)) t470 _ A3.out).mono ?_);rintro e w' ⟨rfl,⟨nd,rfl⟩⟩;refine ⟨_,rfl,?_⟩))
 go_ret
 exact ⟨by first|rfl|(simp [zx,zw]<;>rfl)|(simp [*,zx,zw]<;>rfl),by repeat (first|(with_reducible first|exact HB.out|apply zg|apply zf|apply zm|refine zr ?_ GE469.out)|exact HB.out)⟩
def impl_SyncDisk.l0:Nat→List (S110)→Int→Int→List ByteArray→List (S110)→List ByteArray→List (S110)→Option (List ByteArray×(List (S110)))
 |0,_,_,_,_,_,_,_=>none
 |k+1,x9,x10,x11,x472000,x472001,x480000,x480001=>if x11<x10 then (if 0≤x11 then (if x11<(x9.length:Int) then ((impl_isPage.f x472000 x472001 ((zn x9 x11).f0)).bind fun t482=>(if t482=true then (if 0≤((zn x9 x11).f0) then (if ((zn x9 x11).f0)<(x480000.length:Int) then (impl_SyncDisk.l0 k x9 x10 (wrap64 (x11+1)) x472000 x472001 (x480000.set (((zn x9 x11).f0):Int).toNat ((zn x9 x11).f1)) x480001) else (none)) else (none)) else (impl_SyncDisk.l0 k x9 x10 (wrap64 (x11+1)) x472000 x472001 x480000 x480001))) else (none)) else (none)) else (some (x480000,([]:List (S110))))
def impl_SyncDisk.f (k:Nat) (l0_0:List ByteArray) (l0_1:List (S110)):Option (List ByteArray×(List (S110))):=(impl_cloneDisk.f l0_0 l0_1).bind fun bt473=>(impl_SyncDisk.l0 k l0_1 (l0_1.length:Int) 0 l0_0 l0_1 bt473.1 bt473.2)
theorem impl_SyncDisk.calls (k:Nat) (A0_0:Option Addr) (c0_0:Nat) (l0_0:List ByteArray) (A0_1:Option Addr) (c0_1:Nat) (l0_1:List (S110)) (r1:List ByteArray) (r2:List (S110)) (w:World) (hr0_0:Kd.C Kd.string w A0_0 l0_0.length l0_0) (hc0_0:l0_0.length≤c0_0) (hr0_1:Kd.C k110 w A0_1 l0_1.length l0_1) (hc0_1:l0_1.length≤c0_1) (h:impl_SyncDisk.f k l0_0 l0_1=some (r1,r2)):
  Calls Tryz.prog 43 #[.agg #[.slice A0_0 l0_0.length c0_0,.slice A0_1 l0_1.length c0_1]] w fun e w'=>∃v0_ v1_:Value,e= .returned (.agg #[v0_,v1_])∧Kd.R Kd.string 9 w' w.heap.size (fun _=>True) v0_ r1∧Kd.R k110 110 w' w.heap.size (fun _=>True) v1_ r2∧Below w.heap.size w w':=by
 have hu32:=Tryz.underlying37
 have hu135:=Tryz.underlying110
 have HR0_0:=zz hr0_0
 have HC0_0:=zz hc0_0
 clear hr0_0 hc0_0
 have HR0_1:=zz hr0_1
 have HC0_1:=zz hc0_1
 clear hr0_1 hc0_1
 have HB:=zz (Below.refl w.heap.size w)
 have H:((impl_cloneDisk.f l0_0 l0_1).bind fun bt473=>(impl_SyncDisk.l0 k l0_1 (l0_1.length:Int) 0 l0_0 l0_1 bt473.1 bt473.2))=some (r1,r2):=h
 clear h
 replace H:=Option.bind_eq_some_iff.mp H
 obtain ⟨⟨t473,t476⟩,A20,H⟩:=H
 replace H:(impl_SyncDisk.l0 k l0_1 (l0_1.length:Int) 0 l0_0 l0_1 t473 t476)=some (r1,r2):=H
 have A2:=zz A20
 clear A20
 have H':=zz H
 clear H
 go_enter Tryz.func43,Tryz.ntmps43
 go_wp2_with (first|((with_reducible refine zv (N:=1) rfl ?_);refine zE ?hg (N:=1) ?hd (cs:= #[.slice A0_0 l0_0.length c0_0,.slice A0_1 l0_1.length c0_1]) (t:=37) ?hr ?_;(case hd=>rfl);(case hg=>rfl);(case hr=>first|(go_simp;done)|(go_simp;rfl));intro gb471 hg w3 hbox hb;have n0_:=zz (zk zq1 hb);have n1_:=zz (hbox);have n2_:=zz ((by rw [hg];exact (zi zq1):w.heap.size≤gb471));have n3_:=zz ((by rw [hg];exact (zi zq1):w.heap.size≤gb471));clear HB;have HB:=n0_;have BK471:=n1_;have GW471:=n2_;have GE471:=n3_;clear n0_ n1_ n2_ n3_;clear hb hbox hg)|((with_reducible refine zv (N:=2) rfl ?_);refine zE ?hg (N:=2) ?hd (cs:= #[.slice none 0 0,.slice none 0 0]) (t:=37) ?hr ?_;(case hd=>rfl);(case hg=>rfl);(case hr=>first|(go_simp;done)|(go_simp;rfl));intro gb472 hg w4 hbox hb;have n0_:=zz (zu (g:=gb471) (o:= .cells #[.slice A0_0 l0_0.length c0_0,.slice A0_1 l0_1.length c0_1] 37 (0,0)) (zq0 BK471.out) hb);have n1_:=zz (zk (zq3 GE471.out) hb);have n2_:=zz (hbox);have n3_:=zz ((by rw [hg];exact (zi (zq3 GE471.out)):w.heap.size≤gb472));have n4_:=zz ((by rw [hg];exact (zi (zq3 GE471.out)):w.heap.size≤gb472));have n5_:=zz ((by rw [hg];exact Nat.ne_of_lt (zG (g:=gb471) (o:= .cells #[.slice A0_0 l0_0.length c0_0,.slice A0_1 l0_1.length c0_1] 37 (0,0)) (zq0 BK471.out)):gb471≠gb472));have n6_:=zz ((by rw [hg];exact Nat.ne_of_gt (zG (g:=gb471) (o:= .cells #[.slice A0_0 l0_0.length c0_0,.slice A0_1 l0_1.length c0_1] 37 (0,0)) (zq0 BK471.out)):gb472≠gb471));clear BK471;clear HB;have BK471:=n0_;have HB:=n1_;have BK472:=n2_;have GW472:=n3_;have GE472:=n4_;have NB471_472:=n5_;have NB472_471:=n6_;clear n0_ n1_ n2_ n3_ n4_ n5_ n6_;clear hb hbox hg;have hnb5:=NB471_472.out;have hnc5:=NB472_471.out;have hcz6_0:w4.cell? ⟨gb471,0,none⟩=some (.slice A0_0 l0_0.length c0_0):=(ze BK471.out 0).trans rfl;have hcz6_1:w4.cell? ⟨gb471,1,none⟩=some (.slice A0_1 l0_1.length c0_1):=(ze BK471.out 1).trans rfl;have hfz6_0:=zd BK471.out 0;have hfz6_1:=zd BK471.out 1)|((with_reducible refine zB (f:=46) rfl ?_);refine zO (some 7) rfl rfl Tryz.func46 zq7 rfl #[.agg #[.slice A0_0 l0_0.length c0_0,.slice A0_1 l0_1.length c0_1]] rfl zq4 ?_;(with_reducible refine (impl_cloneDisk.calls _ _ l0_0 _ _ l0_1 t473 t476 _ ?side1 ?side2 ?side3 ?side4 A2.out).mono ?_);(case side1=>repeat (first|exact (Kd.C_below HR0_0.out HB.out)|(with_reducible refine Kd.C_alloc ?_ _)|(with_reducible refine Kd.C_drewN ?_ _)|(with_reducible refine Kd.C_drew ?_)));(case side2=>exact HC0_0.out);(case side3=>repeat (first|exact (Kd.C_below HR0_1.out HB.out)|(with_reducible refine Kd.C_alloc ?_ _)|(with_reducible refine Kd.C_drewN ?_ _)|(with_reducible refine Kd.C_drew ?_)));(case side4=>exact HC0_1.out);rintro e w7 ⟨v474,v477,rfl,ho0,ho1,hb⟩;refine ⟨_,rfl,?_⟩;(first|have rs_v474:=zN (P:=Tryz.prog) ho0|have rs_v474:=zN (P:=Tryz.prog) (Kd.S_R ho0)|skip);(first|have rs_v477:=zN (P:=Tryz.prog) ho1|have rs_v477:=zN (P:=Tryz.prog) (Kd.S_R ho1)|skip);have n0_:=zz (Kd.R_lower ho0 (zi (zq2 GE471.out GE472.out)));have n1_:=zz (Kd.R_lower ho1 (zi (zq2 GE471.out GE472.out)));have n2_:=zz (zu (g:=gb471) (o:= .cells #[.slice A0_0 l0_0.length c0_0,.slice A0_1 l0_1.length c0_1] 37 (0,0)) (zq0 BK471.out) hb);have n3_:=zz (zu (g:=gb472) (o:= .cells #[.slice none 0 0,.slice none 0 0] 37 (0,0)) (zq0 BK472.out) hb);have n4_:=zz (zk (zq2 GE471.out GE472.out) hb);clear BK471;clear BK472;clear HB;have HO475:=n0_;have HO478:=n1_;have BK471:=n2_;have BK472:=n3_;have HB:=n4_;clear n0_ n1_ n2_ n3_ n4_;(try clear hb);(try clear hb2);(try clear hk);(try clear hi);(try clear ho0);(try clear ho1))|((with_reducible refine zv (N:=3) rfl ?_);refine zE ?hg (N:=3) ?hd (cs:= #[.slice none 0 0,.slice none 0 0]) (t:=37) ?hr ?_;(case hd=>rfl);(case hg=>rfl);(case hr=>first|(go_simp;done)|(go_simp;rfl));intro gb479 hg w8 hbox hb;have n0_:=zz (Kd.R_below (zq9 HO475.out) hb);have n1_:=zz (Kd.R_below (zq9 HO478.out) hb);have n2_:=zz (zu (g:=gb471) (o:= .cells #[.slice A0_0 l0_0.length c0_0,.slice A0_1 l0_1.length c0_1] 37 (0,0)) (zq0 BK471.out) hb);have n3_:=zz (zu (g:=gb472) (o:= .cells #[.slice none 0 0,.slice none 0 0] 37 (0,0)) (zq0 BK472.out) hb);have n4_:=zz (zk (zq2 GE471.out GE472.out) hb);have n5_:=zz (hbox);have n6_:=zz ((by rw [hg];exact (zi (zq2 GE471.out GE472.out)):w.heap.size≤gb479));have n7_:=zz ((by rw [hg];exact (zi (zq2 GE471.out GE472.out)):w.heap.size≤gb479));have n8_:=zz ((by rw [hg];exact Nat.ne_of_lt (zG (g:=gb471) (o:= .cells #[.slice A0_0 l0_0.length c0_0,.slice A0_1 l0_1.length c0_1] 37 (0,0)) (zq0 BK471.out)):gb471≠gb479));have n9_:=zz ((by rw [hg];exact Nat.ne_of_gt (zG (g:=gb471) (o:= .cells #[.slice A0_0 l0_0.length c0_0,.slice A0_1 l0_1.length c0_1] 37 (0,0)) (zq0 BK471.out)):gb479≠gb471));have n10_:=zz ((by rw [hg];exact Nat.ne_of_lt (zG (g:=gb472) (o:= .cells #[.slice none 0 0,.slice none 0 0] 37 (0,0)) (zq0 BK472.out)):gb472≠gb479));have n11_:=zz ((by rw [hg];exact Nat.ne_of_gt (zG (g:=gb472) (o:= .cells #[.slice none 0 0,.slice none 0 0] 37 (0,0)) (zq0 BK472.out)):gb479≠gb472));clear HO475;clear HO478;clear BK471;clear BK472;clear HB;have HO475:=n0_;have HO478:=n1_;have BK471:=n2_;have BK472:=n3_;have HB:=n4_;have BK479:=n5_;have GW479:=n6_;have GE479:=n7_;have NB471_479:=n8_;have NB479_471:=n9_;have NB472_479:=n10_;have NB479_472:=n11_;clear n0_ n1_ n2_ n3_ n4_ n5_ n6_ n7_ n8_ n9_ n10_ n11_;clear hb hbox hg;obtain ⟨Ao9,co9,eo9⟩:=Kd.R_slice HO475.out;subst eo9;have hnb10:=NB479_471.out;have hnc10:=NB471_479.out;have hnb11:=NB479_472.out;have hnc11:=NB472_479.out;have hcz12_0:w8.cell? ⟨gb479,0,none⟩=some (.slice none 0 0):=(ze BK479.out 0).trans rfl;have hcz12_1:w8.cell? ⟨gb479,1,none⟩=some (.slice none 0 0):=(ze BK479.out 1).trans rfl;have hfz12_0:=zd BK479.out 0;have hfz12_1:=zd BK479.out 1;obtain ⟨Ao13,co13,eo13⟩:=Kd.R_slice HO478.out;subst eo13;have hcz14_0:w8.cell? ⟨gb471,0,none⟩=some (.slice A0_0 l0_0.length c0_0):=(ze BK471.out 0).trans rfl;have hcz14_1:w8.cell? ⟨gb471,1,none⟩=some (.slice A0_1 l0_1.length c0_1):=(ze BK471.out 1).trans rfl;have hfz14_0:=zd BK471.out 0;have hfz14_1:=zd BK471.out 1))
 go_loopg [11] k (fun kq v11 w'=>∃(x11_1:Int) (x480000_1:List ByteArray) (u480000:Value),v11= .int .i64 x11_1∧Z0 (impl_SyncDisk.l0 kq l0_1 (l0_1.length:Int) x11_1 l0_0 l0_1 x480000_1 t476=some (r1,r2))∧Z0 (kq≤k)∧Z0 (Kd.R Kd.string 9 w' w.heap.size (fun _=>True) u480000 x480000_1)∧Z0 (Kd.R k110 110 w' w.heap.size (fun _=>True) (.slice Ao13 t476.length co13) t476)∧Z0 (w'.heap[gb471]?=some (.cells #[(.slice A0_0 l0_0.length c0_0),(.slice A0_1 l0_1.length c0_1)] 37 (0,0)))∧Z0 (w'.heap[gb472]?=some (.cells #[(.slice none 0 0),(.slice none 0 0)] 37 (0,0)))∧Z0 (w'.heap[gb479]?=some (.cells #[u480000,(.slice Ao13 t476.length co13)] 37 (0,0)))∧Z0 (Below w.heap.size w w'))
 case atStart=>exact ⟨(0),(t473),(.slice Ao9 t473.length co9),zq12,H',⟨Nat.le_refl _⟩,⟨by (with_reducible repeat (first|apply Kd.R_alloc|apply Kd.R_drewN|apply Kd.R_drew));exact Kd.R_mono (Kd.R_far (p:=⟨gb479,1,none⟩) (Kd.R_far (p:=⟨gb479,0,none⟩) (Kd.R_types HO475.out BK479.out zq14) (fun _ hk=>hk.2) (.slice Ao9 t473.length co9)) (fun _ hk=>hk.2) (.slice Ao13 t476.length co13)) (fun _ hk=>trivial)⟩,⟨by (with_reducible repeat (first|apply Kd.R_alloc|apply Kd.R_drewN|apply Kd.R_drew));exact Kd.R_mono (Kd.R_far (p:=⟨gb479,1,none⟩) (Kd.R_far (p:=⟨gb479,0,none⟩) (Kd.R_types HO478.out BK479.out zq14) (fun _ hk=>hk.2) (.slice Ao9 t473.length co9)) (fun _ hk=>hk.2) (.slice Ao13 t476.length co13)) (fun _ hk=>trivial)⟩,⟨by (with_reducible repeat (first|refine zj ?_ _|refine zl ?_|refine zh ?_ _));refine zH ?_ NB471_479.out _;(with_reducible repeat (first|refine zj ?_ _|refine zl ?_|refine zh ?_ _));refine zH ?_ NB471_479.out _;(with_reducible repeat (first|refine zj ?_ _|refine zl ?_|refine zh ?_ _));exact BK471.out⟩,⟨by (with_reducible repeat (first|refine zj ?_ _|refine zl ?_|refine zh ?_ _));refine zH ?_ NB472_479.out _;(with_reducible repeat (first|refine zj ?_ _|refine zl ?_|refine zh ?_ _));refine zH ?_ NB472_479.out _;(with_reducible repeat (first|refine zj ?_ _|refine zl ?_|refine zh ?_ _));exact BK472.out⟩,⟨by (with_reducible repeat (first|refine zj ?_ _|refine zl ?_|refine zh ?_ _));refine zL (cs:= #[.slice Ao9 t473.length co9,.slice none 0 0]) ?_ 1 _ rfl;(with_reducible repeat (first|refine zj ?_ _|refine zl ?_|refine zh ?_ _));refine zL (cs:= #[.slice none 0 0,.slice none 0 0]) ?_ 0 _ rfl;(with_reducible repeat (first|refine zj ?_ _|refine zl ?_|refine zh ?_ _));exact BK479.out⟩,⟨by repeat (first|(with_reducible first|exact HB.out|apply zg|apply zf|apply zm|refine zr ?_ GE471.out|refine zr ?_ GE472.out|refine zr ?_ GE479.out)|exact HB.out)⟩⟩
 case round=>
  clear H'
  try clear hcz12_0
  try clear hcz12_1
  try clear hcz14_0
  try clear hcz14_1
  try clear hcz6_0
  try clear hcz6_1
  try clear hfz12_0
  try clear hfz12_1
  try clear hfz14_0
  try clear hfz14_1
  try clear hfz6_0
  try clear hfz6_1
  obtain ⟨x11_1,x480000_1,u480000,rfl,HA,HK1,HO_480000,HO_480001,BK471,BK472,BK479,HB⟩:=hrel
  cases gk with
  |zero=>exact absurd HA.out (by simp [impl_SyncDisk.l0])
  |succ k1=>
   have H:=HA.out
   clear HA
   simp only [impl_SyncDisk.l0] at H
   by_cases c15:x11_1<(l0_1.length:Int)
   ·rw [if_pos c15] at H
    have c15b0:decide (x11_1<(l0_1.length:Int))=true:=decide_eq_true c15
    clear c15
    by_cases c16:0≤x11_1
    ·rw [if_pos c16] at H
     have c16b0:decide (0≤x11_1)=true:=decide_eq_true c16
     clear c16
     by_cases c17:x11_1<(l0_1.length:Int)
     ·rw [if_pos c17] at H
      have c17b0:decide (x11_1<(l0_1.length:Int))=true:=decide_eq_true c17
      clear c17
      replace H:=Option.bind_eq_some_iff.mp H
      obtain ⟨t482,A180,H⟩:=H
      replace H:(if t482=true then (if 0≤((zn l0_1 x11_1).f0) then (if ((zn l0_1 x11_1).f0)<(x480000_1.length:Int) then (impl_SyncDisk.l0 k1 l0_1 (l0_1.length:Int) (wrap64 (x11_1+1)) l0_0 l0_1 (x480000_1.set (((zn l0_1 x11_1).f0):Int).toNat ((zn l0_1 x11_1).f1)) t476) else (none)) else (none)) else (impl_SyncDisk.l0 k1 l0_1 (l0_1.length:Int) (wrap64 (x11_1+1)) l0_0 l0_1 x480000_1 t476))=some (r1,r2):=H
      have A18:=zz A180
      clear A180
      by_cases c19:t482=true
      ·subst c19
       have H1:(if 0≤((zn l0_1 x11_1).f0) then (if ((zn l0_1 x11_1).f0)<(x480000_1.length:Int) then (impl_SyncDisk.l0 k1 l0_1 (l0_1.length:Int) (wrap64 (x11_1+1)) l0_0 l0_1 (x480000_1.set (((zn l0_1 x11_1).f0):Int).toNat ((zn l0_1 x11_1).f1)) t476) else (none)) else (none))=some (r1,r2):=by rw [if_pos rfl] at H;exact H
       clear H
       have H:=H1
       clear H1
       by_cases c20:0≤((zn l0_1 x11_1).f0)
       ·rw [if_pos c20] at H
        have c20b0:decide (0≤((zn l0_1 x11_1).f0))=true:=decide_eq_true c20
        clear c20
        by_cases c21:((zn l0_1 x11_1).f0)<(x480000_1.length:Int)
        ·rw [if_pos c21] at H
         have c21b0:decide (((zn l0_1 x11_1).f0)<(x480000_1.length:Int))=true:=decide_eq_true c21
         clear c21
         obtain ⟨y483,hy483⟩:∃y_:List ByteArray,y_=(x480000_1.set (((zn l0_1 x11_1).f0):Int).toNat ((zn l0_1 x11_1).f1)):=⟨_,rfl⟩
         replace H:(impl_SyncDisk.l0 k1 l0_1 (l0_1.length:Int) (wrap64 (x11_1+1)) l0_0 l0_1 y483 t476)=some (r1,r2):=by first|(rw [hy483];with_reducible exact H)|(have H2_:=(Option.bind_some _ _).symm.trans H;rw [hy483];with_reducible exact H2_)|(have H2_:=(Option.bind_some _ _).symm.trans H;with_reducible exact H2_)|with_reducible exact H|(rw [hy483];exact H)|exact H
         have Ny483:=zz hy483
         clear hy483
         have H':=zz H
         clear H
         have p480:0≤(x11_1:Int):=of_decide_eq_true zq11
         have q480:x11_1<(l0_1.length:Int):=of_decide_eq_true zq11
         obtain ⟨ad480,e480,hx480_0,hx480_1⟩:=zla HR0_1.out x11_1 p480 q480
         cases e480
         replace hx480_0:=(HB.out.cell (World.block_lt_of_cell? w _ hx480_0)).trans hx480_0
         replace hx480_1:=(HB.out.cell (World.block_lt_of_cell? w _ hx480_1)).trans hx480_1
         replace p480:=eq_true p480
         replace q480:=eq_true q480
         go_wp2_with (first|((with_reducible refine zv (N:=5) rfl ?_);refine zE ?hg (N:=5) ?hd (cs:= #[.int .i64 0,.string (⟨#[]⟩:ByteArray)]) (t:=110) ?hr ?_;(case hd=>rfl);(case hg=>rfl);(case hr=>first|(go_simp;done)|(go_simp;rfl));intro gb481 hg w23 hbox hb;have n0_:=zz (Kd.R_below (zq9 HO_480000.out) hb);have n1_:=zz (Kd.R_below (Kd.R_elderB (zq9 HO_480001.out) gb481 (Nat.le_of_eq hg.symm)) hb);have n2_:=zz (zu (g:=gb471) (o:= .cells #[.slice A0_0 l0_0.length c0_0,.slice (some ad480) l0_1.length c0_1] 37 (0,0)) (zq0 BK471.out) hb);have n3_:=zz (zu (g:=gb472) (o:= .cells #[.slice none 0 0,.slice none 0 0] 37 (0,0)) (zq0 BK472.out) hb);have n4_:=zz (zu (g:=gb479) (o:= .cells #[u480000,.slice Ao13 t476.length co13] 37 (0,0)) (zq0 BK479.out) hb);have n5_:=zz (zk (zq6 GE471.out GE472.out GE479.out) hb);have n6_:=zz (hbox);have n7_:=zz ((by rw [hg];exact (zi (zq6 GE471.out GE472.out GE479.out)):w.heap.size≤gb481));have n8_:=zz ((by rw [hg];exact (zi (zq6 GE471.out GE472.out GE479.out)):w.heap.size≤gb481));have n9_:=zz ((by rw [hg];exact Nat.ne_of_lt (zG (g:=gb471) (o:= .cells #[.slice A0_0 l0_0.length c0_0,.slice (some ad480) l0_1.length c0_1] 37 (0,0)) (zq0 BK471.out)):gb471≠gb481));have n10_:=zz ((by rw [hg];exact Nat.ne_of_gt (zG (g:=gb471) (o:= .cells #[.slice A0_0 l0_0.length c0_0,.slice (some ad480) l0_1.length c0_1] 37 (0,0)) (zq0 BK471.out)):gb481≠gb471));have n11_:=zz ((by rw [hg];exact Nat.ne_of_lt (zG (g:=gb472) (o:= .cells #[.slice none 0 0,.slice none 0 0] 37 (0,0)) (zq0 BK472.out)):gb472≠gb481));have n12_:=zz ((by rw [hg];exact Nat.ne_of_gt (zG (g:=gb472) (o:= .cells #[.slice none 0 0,.slice none 0 0] 37 (0,0)) (zq0 BK472.out)):gb481≠gb472));have n13_:=zz ((by rw [hg];exact Nat.ne_of_lt (zG (g:=gb479) (o:= .cells #[u480000,.slice Ao13 t476.length co13] 37 (0,0)) (zq0 BK479.out)):gb479≠gb481));have n14_:=zz ((by rw [hg];exact Nat.ne_of_gt (zG (g:=gb479) (o:= .cells #[u480000,.slice Ao13 t476.length co13] 37 (0,0)) (zq0 BK479.out)):gb481≠gb479));clear HO_480000;clear HO_480001;clear BK471;clear BK472;clear BK479;clear HB;have HO_480000:=n0_;have HO_480001:=n1_;have BK471:=n2_;have BK472:=n3_;have BK479:=n4_;have HB:=n5_;have BK481:=n6_;have GW481:=n7_;have GE481:=n8_;have NB471_481:=n9_;have NB481_471:=n10_;have NB472_481:=n11_;have NB481_472:=n12_;have NB479_481:=n13_;have NB481_479:=n14_;clear n0_ n1_ n2_ n3_ n4_ n5_ n6_ n7_ n8_ n9_ n10_ n11_ n12_ n13_ n14_;clear hb hbox hg;have hnb24:=NB481_471.out;have hnc24:=NB471_481.out;have hnb25:=NB481_472.out;have hnc25:=NB472_481.out;have hnb26:=NB481_479.out;have hnc26:=NB479_481.out;have hcz27_0:w23.cell? ⟨gb481,0,none⟩=some (.int .i64 0):=(ze BK481.out 0).trans rfl;have hcz27_1:w23.cell? ⟨gb481,1,none⟩=some (.string (⟨#[]⟩:ByteArray)):=(ze BK481.out 1).trans rfl;have hfz27_0:=zd BK481.out 0;have hfz27_1:=zd BK481.out 1;have hnb28:=NB471_472.out;have hnc28:=NB472_471.out;have hnb29:=NB471_479.out;have hnc29:=NB479_471.out;have hcz30_0:w23.cell? ⟨gb471,0,none⟩=some (.slice A0_0 l0_0.length c0_0):=(ze BK471.out 0).trans rfl;have hcz30_1:w23.cell? ⟨gb471,1,none⟩=some (.slice (some ad480) l0_1.length c0_1):=(ze BK471.out 1).trans rfl;have hfz30_0:=zd BK471.out 0;have hfz30_1:=zd BK471.out 1)|((with_reducible refine zB (f:=86) rfl ?_);refine zO (some 18) rfl rfl Tryz.func86 zq7 rfl #[.agg #[.slice A0_0 l0_0.length c0_0,.slice (some ad480) l0_1.length c0_1],.int .i64 ((zn l0_1 x11_1).f0)] rfl zq4 ?_;(with_reducible refine (impl_isPage.calls _ _ l0_0 _ _ l0_1 ((zn l0_1 x11_1).f0) true _ ?side1 ?side2 ?side3 ?side4 A18.out).mono ?_);(case side1=>exact Kd.C_below HR0_0.out (zq16 GE471.out GE472.out GE479.out GE481.out));(case side2=>exact HC0_0.out);(case side3=>exact Kd.C_below HR0_1.out (zq16 GE471.out GE472.out GE479.out GE481.out));(case side4=>exact HC0_1.out);rintro e w31 ⟨rfl,hb⟩;refine ⟨_,rfl,?_⟩;have n0_:=zz (Kd.R_below (zq31 HO_480000.out BK481.out) hb);have n1_:=zz (Kd.R_below (zq27 HO_480001.out) hb);have n2_:=zz (zu (g:=gb471) (o:= .cells #[.slice A0_0 l0_0.length c0_0,.slice (some ad480) l0_1.length c0_1] 37 (0,0)) (zq22 BK471.out) hb);have n3_:=zz (zu (g:=gb472) (o:= .cells #[.slice none 0 0,.slice none 0 0] 37 (0,0)) (zq23 BK472.out) hb);have n4_:=zz (zu (g:=gb479) (o:= .cells #[u480000,.slice Ao13 t476.length co13] 37 (0,0)) (zq24 BK479.out) hb);have n5_:=zz (zu (g:=gb481) (o:= .cells #[.int .i64 ((zn l0_1 x11_1).f0),.string ((zn l0_1 x11_1).f1)] 110 (0,0)) (zq20 BK481.out) hb);have n6_:=zz (zk (zq16 GE471.out GE472.out GE479.out GE481.out) hb);clear HO_480000;clear HO_480001;clear BK471;clear BK472;clear BK479;clear BK481;clear HB;have HO_480000:=n0_;have HO_480001:=n1_;have BK471:=n2_;have BK472:=n3_;have BK479:=n4_;have BK481:=n5_;have HB:=n6_;clear n0_ n1_ n2_ n3_ n4_ n5_ n6_;(try clear hb);(try clear hb2);(try clear hk);(try clear hi);have hnb32:=NB479_472.out;have hnc32:=NB472_479.out;have hcz33_0:w31.cell? ⟨gb479,0,none⟩=some (u480000):=(ze BK479.out 0).trans rfl;have hcz33_1:w31.cell? ⟨gb479,1,none⟩=some (.slice Ao13 t476.length co13):=(ze BK479.out 1).trans rfl;have hfz33_0:=zd BK479.out 0;have hfz33_1:=zd BK479.out 1;have hcz34_0:w31.cell? ⟨gb481,0,none⟩=some (.int .i64 ((zn l0_1 x11_1).f0)):=(ze BK481.out 0).trans rfl;have hcz34_1:w31.cell? ⟨gb481,1,none⟩=some (.string ((zn l0_1 x11_1).f1)):=(ze BK481.out 1).trans rfl;have hfz34_0:=zd BK481.out 0;have hfz34_1:=zd BK481.out 1;have p22:0≤(((zn l0_1 x11_1).f0):Int):=of_decide_eq_true zq11;have q22:(((zn l0_1 x11_1).f0):Int)<((x480000_1.length:Int):Int):=of_decide_eq_true zq11;obtain ⟨go22,co22,eo22,gb22,gl22,cl22,HG22⟩:=Kd.R_form HO_480000.out zq5;(first|cases eo22|(injection eo22 with ea_ en_ ec_;(first|subst ea_|(injection ea_ with ea_;subst ea_));subst ec_;clear en_));have GB22:=zz gb22;have GG22:=zz HG22;clear gb22 gl22 HG22;obtain ⟨hx22_0,hf22_0⟩:=Kd.R_celln (⟨#[]⟩:ByteArray) HO_480000.out (((zn l0_1 x11_1).f0):Int) p22 q22;replace p22:=eq_true p22;replace q22:=eq_true q22;obtain ⟨hy35_,hz35_⟩:=Kd.R_celln (⟨#[]⟩:ByteArray) HO_480000.out (((zn l0_1 x11_1).f0):Int) (of_decide_eq_true zq11) (of_decide_eq_true zq11);have HP35:=Kd.R_putg HO_480000.out (((zn l0_1 x11_1).f0):Int) ((zn l0_1 x11_1).f1))|((with_reducible refine zC (t:=9) (p:=25) rfl ?_);refine zca (t:=9) (p:=25) (v:= ?vo_w36) (w1:=(w31.setCell ⟨go22,(((zn l0_1 x11_1).f0):Int).toNat,none⟩ (.string ((zn l0_1 x11_1).f1)))) ?hg ?ho ?hn ?hr ?_;(case ho=>rfl);(case hg=>rfl);(case hn=>rfl);(case hr=>first|(go_simp;done)|(go_simp;rfl));intro w36 hw;have hg:w31.grownBy w36 (some go22):=(by rw [hw];exact HP35.2);have hp_:Kd.R Kd.string 9 w36 w.heap.size (fun _=>True) (.slice (some ⟨go22,0,none⟩) x480000_1.length co22) y483:=(by rw [hw,Ny483.out];exact HP35.1);clear HP35;have n0_:=zz (hp_);have n1_:=zz (Kd.R_over' (v:=(.slice (some ⟨go22,0,none⟩) x480000_1.length co22)) (zq9 HO_480001.out) (Kd.R_typed HO_480000.out) zq14 hg);have n2_:=zz (zI (g:=gb471) (o:= .cells #[.slice A0_0 l0_0.length c0_0,.slice (some ad480) l0_1.length c0_1] 37 (0,0)) (zq0 BK471.out) hg (Kd.R_ne HO_480000.out BK471.out zq14));have n3_:=zz (zI (g:=gb472) (o:= .cells #[.slice none 0 0,.slice none 0 0] 37 (0,0)) (zq0 BK472.out) hg (Kd.R_ne HO_480000.out BK472.out zq14));have n4_:=zz (zI (g:=gb479) (o:= .cells #[.slice (some ⟨go22,0,none⟩) x480000_1.length co22,.slice Ao13 t476.length co13] 37 (0,0)) (zq0 BK479.out) hg (Kd.R_ne HO_480000.out BK479.out zq14));have n5_:=zz (zI (g:=gb481) (o:= .cells #[.int .i64 ((zn l0_1 x11_1).f0),.string ((zn l0_1 x11_1).f1)] 110 (0,0)) (zq0 BK481.out) hg (Kd.R_ne HO_480000.out BK481.out zq14));have n6_:=zz ((by rw [hw];exact zr (HB.out) GB22.out:Below w.heap.size w w36));clear HO_480000;clear HO_480001;clear BK471;clear BK472;clear BK479;clear BK481;clear HB;have HO_480000:=n0_;have HO_480001:=n1_;have BK471:=n2_;have BK472:=n3_;have BK479:=n4_;have BK481:=n5_;have HB:=n6_;clear n0_ n1_ n2_ n3_ n4_ n5_ n6_;clear hg hw hp_))
         go_roundg k1
         case measure=>have:=HK1.out;omega
         case rel=>exact ⟨(wrap64 (x11_1+1)),(y483),(.slice (some ⟨go22,0,none⟩) x480000_1.length co22),zq12,H',⟨by have:=HK1.out;omega⟩,⟨by (with_reducible repeat (first|apply Kd.R_alloc|apply Kd.R_drewN|apply Kd.R_drew));exact HO_480000.out⟩,⟨by (with_reducible repeat (first|apply Kd.R_alloc|apply Kd.R_drewN|apply Kd.R_drew));exact Kd.R_mono HO_480001.out (fun _ hk=>trivial)⟩,⟨by (with_reducible repeat (first|refine zj ?_ _|refine zl ?_|refine zh ?_ _));exact BK471.out⟩,⟨by (with_reducible repeat (first|refine zj ?_ _|refine zl ?_|refine zh ?_ _));exact BK472.out⟩,⟨by (with_reducible repeat (first|refine zj ?_ _|refine zl ?_|refine zh ?_ _));exact BK479.out⟩,⟨by repeat (first|(with_reducible first|exact HB.out|apply zg|apply zf|apply zm|refine zr ?_ GE471.out|refine zr ?_ GE472.out|refine zr ?_ GE479.out|refine zr ?_ GE481.out)|exact HB.out)⟩⟩
        ·rw [if_neg c21] at H
         exact absurd H zq15
       ·rw [if_neg c20] at H
        exact absurd H zq15
      ·replace c19:=Bool.eq_false_iff.mpr c19
       subst c19
       have H1:(impl_SyncDisk.l0 k1 l0_1 (l0_1.length:Int) (wrap64 (x11_1+1)) l0_0 l0_1 x480000_1 t476)=some (r1,r2):=by rw [if_neg (show ¬(false=true) by decide)] at H;exact H
       clear H
       have H:=H1
       clear H1
       have H':=zz H
       clear H
       have p480:0≤(x11_1:Int):=of_decide_eq_true zq11
       have q480:x11_1<(l0_1.length:Int):=of_decide_eq_true zq11
       obtain ⟨ad480,e480,hx480_0,hx480_1⟩:=zla HR0_1.out x11_1 p480 q480
       cases e480
       replace hx480_0:=(HB.out.cell (World.block_lt_of_cell? w _ hx480_0)).trans hx480_0
       replace hx480_1:=(HB.out.cell (World.block_lt_of_cell? w _ hx480_1)).trans hx480_1
       replace p480:=eq_true p480
       replace q480:=eq_true q480
       go_wp2_with (first|((with_reducible refine zv (N:=5) rfl ?_);refine zE ?hg (N:=5) ?hd (cs:= #[.int .i64 0,.string (⟨#[]⟩:ByteArray)]) (t:=110) ?hr ?_;(case hd=>rfl);(case hg=>rfl);(case hr=>first|(go_simp;done)|(go_simp;rfl));intro gb481 hg w37 hbox hb;have n0_:=zz (Kd.R_below (zq9 HO_480000.out) hb);have n1_:=zz (Kd.R_below (Kd.R_elderB (zq9 HO_480001.out) gb481 (Nat.le_of_eq hg.symm)) hb);have n2_:=zz (zu (g:=gb471) (o:= .cells #[.slice A0_0 l0_0.length c0_0,.slice (some ad480) l0_1.length c0_1] 37 (0,0)) (zq0 BK471.out) hb);have n3_:=zz (zu (g:=gb472) (o:= .cells #[.slice none 0 0,.slice none 0 0] 37 (0,0)) (zq0 BK472.out) hb);have n4_:=zz (zu (g:=gb479) (o:= .cells #[u480000,.slice Ao13 t476.length co13] 37 (0,0)) (zq0 BK479.out) hb);have n5_:=zz (zk (zq6 GE471.out GE472.out GE479.out) hb);have n6_:=zz (hbox);have n7_:=zz ((by rw [hg];exact (zi (zq6 GE471.out GE472.out GE479.out)):w.heap.size≤gb481));have n8_:=zz ((by rw [hg];exact (zi (zq6 GE471.out GE472.out GE479.out)):w.heap.size≤gb481));have n9_:=zz ((by rw [hg];exact Nat.ne_of_lt (zG (g:=gb471) (o:= .cells #[.slice A0_0 l0_0.length c0_0,.slice (some ad480) l0_1.length c0_1] 37 (0,0)) (zq0 BK471.out)):gb471≠gb481));have n10_:=zz ((by rw [hg];exact Nat.ne_of_gt (zG (g:=gb471) (o:= .cells #[.slice A0_0 l0_0.length c0_0,.slice (some ad480) l0_1.length c0_1] 37 (0,0)) (zq0 BK471.out)):gb481≠gb471));have n11_:=zz ((by rw [hg];exact Nat.ne_of_lt (zG (g:=gb472) (o:= .cells #[.slice none 0 0,.slice none 0 0] 37 (0,0)) (zq0 BK472.out)):gb472≠gb481));have n12_:=zz ((by rw [hg];exact Nat.ne_of_gt (zG (g:=gb472) (o:= .cells #[.slice none 0 0,.slice none 0 0] 37 (0,0)) (zq0 BK472.out)):gb481≠gb472));have n13_:=zz ((by rw [hg];exact Nat.ne_of_lt (zG (g:=gb479) (o:= .cells #[u480000,.slice Ao13 t476.length co13] 37 (0,0)) (zq0 BK479.out)):gb479≠gb481));have n14_:=zz ((by rw [hg];exact Nat.ne_of_gt (zG (g:=gb479) (o:= .cells #[u480000,.slice Ao13 t476.length co13] 37 (0,0)) (zq0 BK479.out)):gb481≠gb479));clear HO_480000;clear HO_480001;clear BK471;clear BK472;clear BK479;clear HB;have HO_480000:=n0_;have HO_480001:=n1_;have BK471:=n2_;have BK472:=n3_;have BK479:=n4_;have HB:=n5_;have BK481:=n6_;have GW481:=n7_;have GE481:=n8_;have NB471_481:=n9_;have NB481_471:=n10_;have NB472_481:=n11_;have NB481_472:=n12_;have NB479_481:=n13_;have NB481_479:=n14_;clear n0_ n1_ n2_ n3_ n4_ n5_ n6_ n7_ n8_ n9_ n10_ n11_ n12_ n13_ n14_;clear hb hbox hg;have hnb38:=NB481_471.out;have hnc38:=NB471_481.out;have hnb39:=NB481_472.out;have hnc39:=NB472_481.out;have hnb40:=NB481_479.out;have hnc40:=NB479_481.out;have hcz41_0:w37.cell? ⟨gb481,0,none⟩=some (.int .i64 0):=(ze BK481.out 0).trans rfl;have hcz41_1:w37.cell? ⟨gb481,1,none⟩=some (.string (⟨#[]⟩:ByteArray)):=(ze BK481.out 1).trans rfl;have hfz41_0:=zd BK481.out 0;have hfz41_1:=zd BK481.out 1;have hnb42:=NB471_472.out;have hnc42:=NB472_471.out;have hnb43:=NB471_479.out;have hnc43:=NB479_471.out;have hcz44_0:w37.cell? ⟨gb471,0,none⟩=some (.slice A0_0 l0_0.length c0_0):=(ze BK471.out 0).trans rfl;have hcz44_1:w37.cell? ⟨gb471,1,none⟩=some (.slice (some ad480) l0_1.length c0_1):=(ze BK471.out 1).trans rfl;have hfz44_0:=zd BK471.out 0;have hfz44_1:=zd BK471.out 1)|((with_reducible refine zB (f:=86) rfl ?_);refine zO (some 18) rfl rfl Tryz.func86 zq7 rfl #[.agg #[.slice A0_0 l0_0.length c0_0,.slice (some ad480) l0_1.length c0_1],.int .i64 ((zn l0_1 x11_1).f0)] rfl zq4 ?_;(with_reducible refine (impl_isPage.calls _ _ l0_0 _ _ l0_1 ((zn l0_1 x11_1).f0) false _ ?side1 ?side2 ?side3 ?side4 A18.out).mono ?_);(case side1=>exact Kd.C_below HR0_0.out (zq16 GE471.out GE472.out GE479.out GE481.out));(case side2=>exact HC0_0.out);(case side3=>exact Kd.C_below HR0_1.out (zq16 GE471.out GE472.out GE479.out GE481.out));(case side4=>exact HC0_1.out);rintro e w45 ⟨rfl,hb⟩;refine ⟨_,rfl,?_⟩;have n0_:=zz (Kd.R_below (zq31 HO_480000.out BK481.out) hb);have n1_:=zz (Kd.R_below (zq27 HO_480001.out) hb);have n2_:=zz (zu (g:=gb471) (o:= .cells #[.slice A0_0 l0_0.length c0_0,.slice (some ad480) l0_1.length c0_1] 37 (0,0)) (zq22 BK471.out) hb);have n3_:=zz (zu (g:=gb472) (o:= .cells #[.slice none 0 0,.slice none 0 0] 37 (0,0)) (zq23 BK472.out) hb);have n4_:=zz (zu (g:=gb479) (o:= .cells #[u480000,.slice Ao13 t476.length co13] 37 (0,0)) (zq24 BK479.out) hb);have n5_:=zz (zu (g:=gb481) (o:= .cells #[.int .i64 ((zn l0_1 x11_1).f0),.string ((zn l0_1 x11_1).f1)] 110 (0,0)) (zq20 BK481.out) hb);have n6_:=zz (zk (zq16 GE471.out GE472.out GE479.out GE481.out) hb);clear HO_480000;clear HO_480001;clear BK471;clear BK472;clear BK479;clear BK481;clear HB;have HO_480000:=n0_;have HO_480001:=n1_;have BK471:=n2_;have BK472:=n3_;have BK479:=n4_;have BK481:=n5_;have HB:=n6_;clear n0_ n1_ n2_ n3_ n4_ n5_ n6_;(try clear hb);(try clear hb2);(try clear hk);(try clear hi)))
       go_roundg k1
       case measure=>have:=HK1.out;omega
       case rel=>exact ⟨(wrap64 (x11_1+1)),(x480000_1),(u480000),zq12,H',⟨by have:=HK1.out;omega⟩,⟨by (with_reducible repeat (first|apply Kd.R_alloc|apply Kd.R_drewN|apply Kd.R_drew));exact HO_480000.out⟩,⟨by (with_reducible repeat (first|apply Kd.R_alloc|apply Kd.R_drewN|apply Kd.R_drew));exact Kd.R_mono HO_480001.out (fun _ hk=>trivial)⟩,⟨by (with_reducible repeat (first|refine zj ?_ _|refine zl ?_|refine zh ?_ _));exact BK471.out⟩,⟨by (with_reducible repeat (first|refine zj ?_ _|refine zl ?_|refine zh ?_ _));exact BK472.out⟩,⟨by (with_reducible repeat (first|refine zj ?_ _|refine zl ?_|refine zh ?_ _));exact BK479.out⟩,⟨by repeat (first|(with_reducible first|exact HB.out|apply zg|apply zf|apply zm|refine zr ?_ GE471.out|refine zr ?_ GE472.out|refine zr ?_ GE479.out|refine zr ?_ GE481.out)|exact HB.out)⟩⟩
     ·rw [if_neg c17] at H
      exact absurd H zq15
    ·rw [if_neg c16] at H
     exact absurd H zq15
   ·rw [if_neg c15] at H
    have c15b0:decide (x11_1<(l0_1.length:Int))=false:=decide_eq_false c15
    clear c15
    simp only [Option.some.injEq,Prod.mk.injEq] at H
    obtain ⟨rfl,rfl⟩:=H
    have hnb46:=NB479_471.out
    have hnc46:=NB471_479.out
    have hnb47:=NB479_472.out
    have hnc47:=NB472_479.out
    have hcz48_0:wr.cell? ⟨gb479,0,none⟩=some (u480000):=(ze BK479.out 0).trans rfl
    have hcz48_1:wr.cell? ⟨gb479,1,none⟩=some (.slice Ao13 t476.length co13):=(ze BK479.out 1).trans rfl
    have hfz48_0:=zd BK479.out 0
    have hfz48_1:=zd BK479.out 1
    obtain ⟨Ao49,co49,eo49⟩:=Kd.R_slice HO_480000.out
    subst eo49
    have hnb50:=NB472_471.out
    have hnc50:=NB471_472.out
    have hcz51_0:wr.cell? ⟨gb472,0,none⟩=some (.slice none 0 0):=(ze BK472.out 0).trans rfl
    have hcz51_1:wr.cell? ⟨gb472,1,none⟩=some (.slice none 0 0):=(ze BK472.out 1).trans rfl
    have hfz51_0:=zd BK472.out 0
    have hfz51_1:=zd BK472.out 1
    go_wp2
    refine bodyPost_ret (results_cell_row rfl _ _ gb472 37 #[.slice Ao49 x480000_1.length co49,.slice none 0 0] (0,0) _ rfl (by (with_reducible repeat (first|refine zj ?_ _|refine zl ?_|refine zh ?_ _));refine zL (cs:= #[.slice Ao49 x480000_1.length co49,.slice none 0 0]) ?_ 1 _ rfl;(with_reducible repeat (first|refine zj ?_ _|refine zl ?_|refine zh ?_ _));refine zL (cs:= #[.slice none 0 0,.slice none 0 0]) ?_ 0 _ rfl;(with_reducible repeat (first|refine zj ?_ _|refine zl ?_|refine zh ?_ _));refine zH ?_ NB472_479.out _;(with_reducible repeat (first|refine zj ?_ _|refine zl ?_|refine zh ?_ _));exact BK472.out) Tryz.underlying37 rfl zq7) rfl ?_
    exact ⟨_,_,by first|rfl|(simp [zx,zw]<;>rfl)|(simp [*,zx,zw]<;>rfl),by (with_reducible repeat (first|apply Kd.R_alloc|apply Kd.R_drewN|apply Kd.R_drew));exact Kd.R_mono (Kd.R_far (p:=⟨gb472,1,none⟩) (Kd.R_far (p:=⟨gb472,0,none⟩) (Kd.R_far (p:=⟨gb479,1,none⟩) (Kd.R_types (Kd.R_types HO_480000.out BK479.out zq14) BK472.out zq14) (fun _ hk=>hk.1.2) (.slice none 0 0)) (fun _ hk=>hk.2) (.slice Ao49 x480000_1.length co49)) (fun _ hk=>hk.2) (.slice none 0 0)) (fun _ hk=>trivial),by first|exact Kd.R_nil _ _ _ _ _|exact Kd.N_nil _ _ _ _ _|exact Kd.V_nil _ _ _ _ _|exact Kd.Q_nil _ _ _ _ _|exact Kd.S_nil _ _ _ _ _,by repeat (first|(with_reducible first|exact HB.out|apply zg|apply zf|apply zm|refine zr ?_ GE471.out|refine zr ?_ GE472.out|refine zr ?_ GE479.out)|exact HB.out)⟩
theorem implSync_o (k:Nat) (l0:List ByteArray) (l1:List S110) (q0:List ByteArray) (q1:List S110) {cs:List Value} (w:World) (h:kDisk.K w (l0,l1) cs) (hf:impl_SyncDisk.f k l0 l1=some (q0,q1)):
  Calls Tryz.prog 43 #[.agg cs.toArray] w fun e w'=>∃ds:List Value,e= .returned (.agg ds.toArray)∧kDisk.M w' w.heap.size (Fr w w') (q0,q1) ds∧Below w.heap.size w w':=by
 obtain ⟨A0,c0,A1,c1,rfl,m0,r0,m1,r1⟩:=zma h
 refine (impl_SyncDisk.calls k A0 c0 l0 A1 c1 l1 q0 q1 w r0 m0 r1 m1 hf).mono ?_
 rintro e w' ⟨v0,v1,rfl,R0,R1,hb⟩
 have T0:=Own.R_tightB rfl R0
 have T1:=Own.R_tightB rfl R1
 exact ⟨[v0,v1],rfl,zSa T0.1 T1.1 T0.2.1 T1.2.1 (Own.types_ne T0.2.2 T1.2.2 zq14),hb⟩
theorem specSync_o (k:Nat) (l0:List ByteArray) (l1:List S110) (q0:List ByteArray) (q1:List S110) {cs:List Value} (w:World) (h:kDisk.K w (l0,l1) cs) (hf:spec_SyncDisk.f k l0 l1=some (q0,q1)):
  Calls Tryz.prog 33 #[.agg cs.toArray] w fun e w'=>∃ds:List Value,e= .returned (.agg ds.toArray)∧kDisk.M w' w.heap.size (Fr w w') (q0,q1) ds∧Below w.heap.size w w':=by
 obtain ⟨A0,c0,A1,c1,rfl,m0,r0,m1,r1⟩:=zma h
 refine (spec_SyncDisk.calls k A0 c0 l0 A1 c1 l1 q0 q1 w r0 m0 r1 m1 hf).mono ?_
 rintro e w' ⟨v0,v1,rfl,R0,R1,hb⟩
 have T0:=Own.R_tightB rfl R0
 have T1:=Own.R_tightB rfl R1
 exact ⟨[v0,v1],rfl,zSa T0.1 T1.1 T0.2.1 T1.2.1 (Own.types_ne T0.2.2 T1.2.2 zq14),hb⟩
def laws_szFree.f (a0_0:Int) (l0_1:List Int) (a1:Int):Option (Int):=(laws_szIntS.f l0_1 a1).bind fun t215=>(if t215<0 then (some (-1)) else (some t215))
theorem laws_szFree.calls (a0_0:Int) (A0_1:Option Addr) (c0_1:Nat) (l0_1:List Int) (a1:Int) (r:Int) (w:World) (hr0_1:Kd.C (Kd.int .i64) w A0_1 l0_1.length l0_1) (hc0_1:l0_1.length≤c0_1) (h:laws_szFree.f a0_0 l0_1 a1=some r):
  Calls Tryz.prog 114 #[.agg #[.int .i64 a0_0,.slice A0_1 l0_1.length c0_1],.int .i64 a1] w fun e w'=>e= .returned (.int .i64 r)∧Below w.heap.size w w':=by
 have hu183:=Tryz.underlying140
 have HR0_1:=zz hr0_1
 have HC0_1:=zz hc0_1
 clear hr0_1 hc0_1
 have HB:=zz (Below.refl w.heap.size w)
 have H:((laws_szIntS.f l0_1 a1).bind fun t215=>(if t215<0 then (some (-1)) else (some t215)))=some r:=h
 clear h
 replace H:=Option.bind_eq_some_iff.mp H
 obtain ⟨t215,A30,H⟩:=H
 replace H:(if t215<0 then (some (-1)) else (some t215))=some r:=H
 have A3:=zz A30
 clear A30
 by_cases c4:t215<0
 ·rw [if_pos c4] at H
  have c4b0:decide (t215<0)=true:=decide_eq_true c4
  clear c4
  obtain rfl:=Option.some.inj H
  go_enter Tryz.func114,Tryz.ntmps114
  go_wp2_with (first|((with_reducible refine zv (N:=2) rfl ?_);refine zE ?hg (N:=2) ?hd (cs:= #[.int .i64 a0_0,.slice A0_1 l0_1.length c0_1]) (t:=140) ?hr ?_;(case hd=>rfl);(case hg=>rfl);(case hr=>first|(go_simp;done)|(go_simp;rfl));intro gb214 hg w5 hbox hb;have n0_:=zz (zk zq1 hb);have n1_:=zz (hbox);have n2_:=zz ((by rw [hg];exact (zi zq1):w.heap.size≤gb214));have n3_:=zz ((by rw [hg];exact (zi zq1):w.heap.size≤gb214));clear HB;have HB:=n0_;have BK214:=n1_;have GW214:=n2_;have GE214:=n3_;clear n0_ n1_ n2_ n3_;clear hb hbox hg;have hcz6_0:w5.cell? ⟨gb214,0,none⟩=some (.int .i64 a0_0):=(ze BK214.out 0).trans rfl;have hcz6_1:w5.cell? ⟨gb214,1,none⟩=some (.slice A0_1 l0_1.length c0_1):=(ze BK214.out 1).trans rfl;have hfz6_0:=zd BK214.out 0;have hfz6_1:=zd BK214.out 1)|((with_reducible refine zB (f:=76) rfl ?_);refine zO (some 8) rfl rfl Tryz.func76 zq7 rfl #[.slice A0_1 l0_1.length c0_1,.int .i64 a1] rfl zq4 ?_;(with_reducible refine (laws_szIntS.calls _ _ l0_1 a1 t215 _ ?side1 ?side2 A3.out).mono ?_);(case side1=>repeat (first|exact (Kd.C_below HR0_1.out HB.out)|(with_reducible refine Kd.C_alloc ?_ _)|(with_reducible refine Kd.C_drewN ?_ _)|(with_reducible refine Kd.C_drew ?_)));(case side2=>exact HC0_1.out);rintro e w' ⟨rfl,⟨nd,rfl⟩⟩;refine ⟨_,rfl,?_⟩))
  go_ret
  exact ⟨by first|rfl|(simp [zx,zw]<;>rfl)|(simp [*,zx,zw]<;>rfl),by repeat (first|(with_reducible first|exact HB.out|apply zg|apply zf|apply zm|refine zr ?_ GE214.out)|exact HB.out)⟩
 ·rw [if_neg c4] at H
  have c4b0:decide (t215<0)=false:=decide_eq_false c4
  clear c4
  obtain rfl:=Option.some.inj H
  go_enter Tryz.func114,Tryz.ntmps114
  go_wp2_with (first|((with_reducible refine zv (N:=2) rfl ?_);refine zE ?hg (N:=2) ?hd (cs:= #[.int .i64 a0_0,.slice A0_1 l0_1.length c0_1]) (t:=140) ?hr ?_;(case hd=>rfl);(case hg=>rfl);(case hr=>first|(go_simp;done)|(go_simp;rfl));intro gb214 hg w7 hbox hb;have n0_:=zz (zk zq1 hb);have n1_:=zz (hbox);have n2_:=zz ((by rw [hg];exact (zi zq1):w.heap.size≤gb214));have n3_:=zz ((by rw [hg];exact (zi zq1):w.heap.size≤gb214));clear HB;have HB:=n0_;have BK214:=n1_;have GW214:=n2_;have GE214:=n3_;clear n0_ n1_ n2_ n3_;clear hb hbox hg;have hcz8_0:w7.cell? ⟨gb214,0,none⟩=some (.int .i64 a0_0):=(ze BK214.out 0).trans rfl;have hcz8_1:w7.cell? ⟨gb214,1,none⟩=some (.slice A0_1 l0_1.length c0_1):=(ze BK214.out 1).trans rfl;have hfz8_0:=zd BK214.out 0;have hfz8_1:=zd BK214.out 1)|((with_reducible refine zB (f:=76) rfl ?_);refine zO (some 8) rfl rfl Tryz.func76 zq7 rfl #[.slice A0_1 l0_1.length c0_1,.int .i64 a1] rfl zq4 ?_;(with_reducible refine (laws_szIntS.calls _ _ l0_1 a1 t215 _ ?side1 ?side2 A3.out).mono ?_);(case side1=>repeat (first|exact (Kd.C_below HR0_1.out HB.out)|(with_reducible refine Kd.C_alloc ?_ _)|(with_reducible refine Kd.C_drewN ?_ _)|(with_reducible refine Kd.C_drew ?_)));(case side2=>exact HC0_1.out);rintro e w' ⟨rfl,⟨nd,rfl⟩⟩;refine ⟨_,rfl,?_⟩))
  go_ret
  exact ⟨by first|rfl|(simp [zx,zw]<;>rfl)|(simp [*,zx,zw]<;>rfl),by repeat (first|(with_reducible first|exact HB.out|apply zg|apply zf|apply zm|refine zr ?_ GE214.out)|exact HB.out)⟩
def laws_szFreeS.l0:Nat→List (S140)→Int→Int→Option (Int)
 |0,_,_,_=>none
 |k+1,x0,x1,x5=>if x5<(x0.length:Int) then (if 0≤x5 then ((laws_szFree.f ((zpa x0 x5).f0) ((zpa x0 x5).f1) x1).bind fun t217=>(if t217<0 then (some (-1)) else (laws_szFreeS.l0 k x0 t217 (wrap64 (x5+1))))) else (none)) else (some x1)
def laws_szFreeS.f (k:Nat) (l0:List (S140)) (a1:Int):Option (Int):=if (wrap64 (a1-(l0.length:Int)))<0 then (some (-1)) else (laws_szFreeS.l0 k l0 (wrap64 (a1-(l0.length:Int))) 0)
theorem laws_szFreeS.mono_l:∀k,(∀y0 y1 y2,LeO (laws_szFreeS.l0 k y0 y1 y2) (laws_szFreeS.l0 (k+1) y0 y1 y2))
 |0=>fun _ _ _ r h=>by simp [laws_szFreeS.l0] at h
 |k+1=>by
  have ih0:=laws_szFreeS.mono_l k
  ·intro y0 y1 y2
   unfold laws_szFreeS.l0
   repeat' first
   |(with_reducible exact ih0 _ _ _)
   |(with_reducible exact LeO.refl _)
   |(with_reducible exact LeO.none _)
   |(with_reducible refine LeO.ite ?_ ?_)
   |(with_reducible refine LeO.bind ?_ (fun _=> ?_))
   |exact ih0 _ _ _
theorem laws_szFreeS.mono:∀a0 a1 k,LeO (laws_szFreeS.f k a0 a1) (laws_szFreeS.f (k+1) a0 a1):=by
 intro a0 a1 k
 have ih0:=laws_szFreeS.mono_l k
 unfold laws_szFreeS.f
 repeat' first
   |(with_reducible exact ih0 _ _ _)
   |(with_reducible exact LeO.refl _)
   |(with_reducible exact LeO.none _)
   |(with_reducible refine LeO.ite ?_ ?_)
   |(with_reducible refine LeO.bind ?_ (fun _=> ?_))
   |exact ih0 _ _ _
theorem laws_szFreeS.calls (k:Nat) (A0:Option Addr) (c0:Nat) (l0:List (S140)) (a1:Int) (r:Int) (w:World) (hr0:Kd.C k140 w A0 l0.length l0) (hc0:l0.length≤c0) (h:laws_szFreeS.f k l0 a1=some r):
  Calls Tryz.prog 75 #[.slice A0 l0.length c0,.int .i64 a1] w fun e w'=>e= .returned (.int .i64 r)∧Below w.heap.size w w':=by
 have hu183:=Tryz.underlying140
 have HR0:=zz hr0
 have HC0:=zz hc0
 clear hr0 hc0
 have HB:=zz (Below.refl w.heap.size w)
 have H:(if (wrap64 (a1-(l0.length:Int)))<0 then (some (-1)) else (laws_szFreeS.l0 k l0 (wrap64 (a1-(l0.length:Int))) 0))=some r:=h
 clear h
 by_cases c3:(wrap64 (a1-(l0.length:Int)))<0
 ·rw [if_pos c3] at H
  have c3b0:decide ((wrap64 (a1-(l0.length:Int)))<0)=true:=decide_eq_true c3
  clear c3
  obtain rfl:=Option.some.inj H
  go_enter Tryz.func75,Tryz.ntmps75
  go_wp2
  go_ret
  exact ⟨by first|rfl|(simp [zx,zw]<;>rfl)|(simp [*,zx,zw]<;>rfl),by repeat (first|(with_reducible first|exact HB.out|apply zg|apply zf|apply zm)|exact HB.out)⟩
 ·rw [if_neg c3] at H
  have c3b0:decide ((wrap64 (a1-(l0.length:Int)))<0)=false:=decide_eq_false c3
  clear c3
  have H':=zz H
  clear H
  go_enter Tryz.func75,Tryz.ntmps75
  go_wp2
  go_loopg [1,5] k (fun kq v1 v5 w'=>∃(x1_1:Int) (x5_1:Int),v1= .int .i64 x1_1∧v5= .int .i64 x5_1∧Z0 (laws_szFreeS.l0 kq l0 x1_1 x5_1=some r)∧Z0 (kq≤k)∧Z0 (Below w.heap.size w w'))
  case atStart=>exact ⟨(wrap64 (a1-(l0.length:Int))),(0),zq12,zq12,H',⟨Nat.le_refl _⟩,⟨by repeat (first|(with_reducible first|exact HB.out|apply zg|apply zf|apply zm)|exact HB.out)⟩⟩
  case round=>
   clear H'
   try clear c3
   try clear c3b0
   obtain ⟨x1_1,x5_1,rfl,rfl,HA,HK1,HB⟩:=hrel
   cases gk with
   |zero=>exact absurd HA.out (by simp [laws_szFreeS.l0])
   |succ k1=>
    have H:=HA.out
    clear HA
    simp only [laws_szFreeS.l0] at H
    by_cases c4:x5_1<(l0.length:Int)
    ·rw [if_pos c4] at H
     have c4b0:decide (x5_1<(l0.length:Int))=true:=decide_eq_true c4
     clear c4
     by_cases c5:0≤x5_1
     ·rw [if_pos c5] at H
      have c5b0:decide (0≤x5_1)=true:=decide_eq_true c5
      clear c5
      replace H:=Option.bind_eq_some_iff.mp H
      obtain ⟨t217,A60,H⟩:=H
      replace H:(if t217<0 then (some (-1)) else (laws_szFreeS.l0 k1 l0 t217 (wrap64 (x5_1+1))))=some r:=H
      have A6:=zz A60
      clear A60
      by_cases c7:t217<0
      ·rw [if_pos c7] at H
       have c7b0:decide (t217<0)=true:=decide_eq_true c7
       clear c7
       obtain rfl:=Option.some.inj H
       have p216:0≤(x5_1:Int):=of_decide_eq_true zq11
       have q216:x5_1<(l0.length:Int):=of_decide_eq_true zq11
       obtain ⟨ad216,A216_1,c216_1,e216,hx216_0,hx216_1,hl216_1,hi216_1⟩:=at_T140 HR0.out x5_1 p216 q216
       cases e216
       replace hx216_0:=(HB.out.cell (World.block_lt_of_cell? w _ hx216_0)).trans hx216_0
       replace hx216_1:=(HB.out.cell (World.block_lt_of_cell? w _ hx216_1)).trans hx216_1
       have HR216_1:=zz hi216_1
       have HC216_1:=zz hl216_1
       clear hi216_1 hl216_1
       replace p216:=eq_true p216
       replace q216:=eq_true q216
       go_wp2_with (first|((with_reducible refine zB (f:=114) rfl ?_);refine zO (some 23) rfl rfl Tryz.func114 zq7 rfl #[.agg #[.int .i64 ((zpa l0 x5_1).f0),.slice A216_1 ((zpa l0 x5_1).f1).length c216_1],.int .i64 x1_1] rfl zq4 ?_;(with_reducible refine (laws_szFree.calls ((zpa l0 x5_1).f0) _ _ ((zpa l0 x5_1).f1) x1_1 t217 _ ?side1 ?side2 A6.out).mono ?_);(case side1=>repeat (first|exact (Kd.C_below HR216_1.out HB.out)|(with_reducible refine Kd.C_alloc ?_ _)|(with_reducible refine Kd.C_drewN ?_ _)|(with_reducible refine Kd.C_drew ?_)));(case side2=>exact HC216_1.out);rintro e w8 ⟨rfl,hb⟩;refine ⟨_,rfl,?_⟩;have n0_:=zz (zk zq1 hb);clear HB;have HB:=n0_;clear n0_;(try clear hb);(try clear hb2);(try clear hk);(try clear hi)))
       go_ret
       exact ⟨by first|rfl|(simp [zx,zw]<;>rfl)|(simp [*,zx,zw]<;>rfl),by repeat (first|(with_reducible first|exact HB.out|apply zg|apply zf|apply zm)|exact HB.out)⟩
      ·rw [if_neg c7] at H
       have c7b0:decide (t217<0)=false:=decide_eq_false c7
       clear c7
       have H':=zz H
       clear H
       have p216:0≤(x5_1:Int):=of_decide_eq_true zq11
       have q216:x5_1<(l0.length:Int):=of_decide_eq_true zq11
       obtain ⟨ad216,A216_1,c216_1,e216,hx216_0,hx216_1,hl216_1,hi216_1⟩:=at_T140 HR0.out x5_1 p216 q216
       cases e216
       replace hx216_0:=(HB.out.cell (World.block_lt_of_cell? w _ hx216_0)).trans hx216_0
       replace hx216_1:=(HB.out.cell (World.block_lt_of_cell? w _ hx216_1)).trans hx216_1
       have HR216_1:=zz hi216_1
       have HC216_1:=zz hl216_1
       clear hi216_1 hl216_1
       replace p216:=eq_true p216
       replace q216:=eq_true q216
       go_wp2_with (first|((with_reducible refine zB (f:=114) rfl ?_);refine zO (some 23) rfl rfl Tryz.func114 zq7 rfl #[.agg #[.int .i64 ((zpa l0 x5_1).f0),.slice A216_1 ((zpa l0 x5_1).f1).length c216_1],.int .i64 x1_1] rfl zq4 ?_;(with_reducible refine (laws_szFree.calls ((zpa l0 x5_1).f0) _ _ ((zpa l0 x5_1).f1) x1_1 t217 _ ?side1 ?side2 A6.out).mono ?_);(case side1=>repeat (first|exact (Kd.C_below HR216_1.out HB.out)|(with_reducible refine Kd.C_alloc ?_ _)|(with_reducible refine Kd.C_drewN ?_ _)|(with_reducible refine Kd.C_drew ?_)));(case side2=>exact HC216_1.out);rintro e w9 ⟨rfl,hb⟩;refine ⟨_,rfl,?_⟩;have n0_:=zz (zk zq1 hb);clear HB;have HB:=n0_;clear n0_;(try clear hb);(try clear hb2);(try clear hk);(try clear hi)))
       go_roundg k1
       case measure=>have:=HK1.out;omega
       case rel=>exact ⟨(t217),(wrap64 (x5_1+1)),zq12,zq12,H',⟨by have:=HK1.out;omega⟩,⟨by repeat (first|(with_reducible first|exact HB.out|apply zg|apply zf|apply zm)|exact HB.out)⟩⟩
     ·rw [if_neg c5] at H
      exact absurd H zq15
    ·rw [if_neg c4] at H
     have c4b0:decide (x5_1<(l0.length:Int))=false:=decide_eq_false c4
     clear c4
     obtain rfl:=Option.some.inj H
     go_wp2
     go_ret
     exact ⟨by first|rfl|(simp [zx,zw]<;>rfl)|(simp [*,zx,zw]<;>rfl),by repeat (first|(with_reducible first|exact HB.out|apply zg|apply zf|apply zm)|exact HB.out)⟩
def laws_szMeta.f (k:Nat) (a0_0:Int) (a0_1:Int) (a0_2:Int) (l0_3:List (S140)) (a1:Int):Option (Int):=(laws_szFreeS.f k l0_3 a1).bind fun t219=>(if t219<0 then (some (-1)) else (some t219))
theorem laws_szMeta.mono:∀a0 a1 a2 a3 a4 k,LeO (laws_szMeta.f k a0 a1 a2 a3 a4) (laws_szMeta.f (k+1) a0 a1 a2 a3 a4):=by
 intro a0 a1 a2 a3 a4 k
 unfold laws_szMeta.f
 repeat' first
   |(with_reducible exact laws_szFreeS.mono _ _ _)
   |(with_reducible exact LeO.refl _)
   |(with_reducible exact LeO.none _)
   |(with_reducible refine LeO.ite ?_ ?_)
   |(with_reducible refine LeO.bind ?_ (fun _=> ?_))
   |exact laws_szFreeS.mono _ _ _
theorem laws_szMeta.calls (k:Nat) (a0_0:Int) (a0_1:Int) (a0_2:Int) (A0_3:Option Addr) (c0_3:Nat) (l0_3:List (S140)) (a1:Int) (r:Int) (w:World) (hr0_3:Kd.C k140 w A0_3 l0_3.length l0_3) (hc0_3:l0_3.length≤c0_3) (h:laws_szMeta.f k a0_0 a0_1 a0_2 l0_3 a1=some r):
  Calls Tryz.prog 30 #[.agg #[.int .i64 a0_0,.int .i64 a0_1,.int .i64 a0_2,.slice A0_3 l0_3.length c0_3],.int .i64 a1] w fun e w'=>e= .returned (.int .i64 r)∧Below w.heap.size w w':=by
 have hu69:=Tryz.underlying24
 have HR0_3:=zz hr0_3
 have HC0_3:=zz hc0_3
 clear hr0_3 hc0_3
 have HB:=zz (Below.refl w.heap.size w)
 have H:((laws_szFreeS.f k l0_3 a1).bind fun t219=>(if t219<0 then (some (-1)) else (some t219)))=some r:=h
 clear h
 replace H:=Option.bind_eq_some_iff.mp H
 obtain ⟨t219,A30,H⟩:=H
 replace H:(if t219<0 then (some (-1)) else (some t219))=some r:=H
 have A3:=zz A30
 clear A30
 by_cases c4:t219<0
 ·rw [if_pos c4] at H
  have c4b0:decide (t219<0)=true:=decide_eq_true c4
  clear c4
  obtain rfl:=Option.some.inj H
  go_enter Tryz.func30,Tryz.ntmps30
  go_wp2_with (first|((with_reducible refine zv (N:=2) rfl ?_);refine zE ?hg (N:=2) ?hd (cs:= #[.int .i64 a0_0,.int .i64 a0_1,.int .i64 a0_2,.slice A0_3 l0_3.length c0_3]) (t:=24) ?hr ?_;(case hd=>rfl);(case hg=>rfl);(case hr=>first|(go_simp;done)|(go_simp;rfl));intro gb218 hg w5 hbox hb;have n0_:=zz (zk zq1 hb);have n1_:=zz (hbox);have n2_:=zz ((by rw [hg];exact (zi zq1):w.heap.size≤gb218));have n3_:=zz ((by rw [hg];exact (zi zq1):w.heap.size≤gb218));clear HB;have HB:=n0_;have BK218:=n1_;have GW218:=n2_;have GE218:=n3_;clear n0_ n1_ n2_ n3_;clear hb hbox hg;have hcz6_0:w5.cell? ⟨gb218,0,none⟩=some (.int .i64 a0_0):=(ze BK218.out 0).trans rfl;have hcz6_1:w5.cell? ⟨gb218,1,none⟩=some (.int .i64 a0_1):=(ze BK218.out 1).trans rfl;have hcz6_2:w5.cell? ⟨gb218,2,none⟩=some (.int .i64 a0_2):=(ze BK218.out 2).trans rfl;have hcz6_3:w5.cell? ⟨gb218,3,none⟩=some (.slice A0_3 l0_3.length c0_3):=(ze BK218.out 3).trans rfl;have hfz6_0:=zd BK218.out 0;have hfz6_1:=zd BK218.out 1;have hfz6_2:=zd BK218.out 2;have hfz6_3:=zd BK218.out 3)|((with_reducible refine zB (f:=75) rfl ?_);refine zO (some 8) rfl rfl Tryz.func75 zq7 rfl #[.slice A0_3 l0_3.length c0_3,.int .i64 a1] rfl zq4 ?_;(with_reducible refine (laws_szFreeS.calls k _ _ l0_3 a1 t219 _ ?side1 ?side2 A3.out).mono ?_);(case side1=>repeat (first|exact (Kd.C_below HR0_3.out HB.out)|(with_reducible refine Kd.C_alloc ?_ _)|(with_reducible refine Kd.C_drewN ?_ _)|(with_reducible refine Kd.C_drew ?_)));(case side2=>exact HC0_3.out);rintro e w7 ⟨rfl,hb⟩;refine ⟨_,rfl,?_⟩;have n0_:=zz (zu (g:=gb218) (o:= .cells #[.int .i64 a0_0,.int .i64 a0_1,.int .i64 a0_2,.slice A0_3 l0_3.length c0_3] 24 (0,0)) (zq0 BK218.out) hb);have n1_:=zz (zk (zq3 GE218.out) hb);clear BK218;clear HB;have BK218:=n0_;have HB:=n1_;clear n0_ n1_;(try clear hb);(try clear hb2);(try clear hk);(try clear hi)))
  go_ret
  exact ⟨by first|rfl|(simp [zx,zw]<;>rfl)|(simp [*,zx,zw]<;>rfl),by repeat (first|(with_reducible first|exact HB.out|apply zg|apply zf|apply zm|refine zr ?_ GE218.out)|exact HB.out)⟩
 ·rw [if_neg c4] at H
  have c4b0:decide (t219<0)=false:=decide_eq_false c4
  clear c4
  obtain rfl:=Option.some.inj H
  go_enter Tryz.func30,Tryz.ntmps30
  go_wp2_with (first|((with_reducible refine zv (N:=2) rfl ?_);refine zE ?hg (N:=2) ?hd (cs:= #[.int .i64 a0_0,.int .i64 a0_1,.int .i64 a0_2,.slice A0_3 l0_3.length c0_3]) (t:=24) ?hr ?_;(case hd=>rfl);(case hg=>rfl);(case hr=>first|(go_simp;done)|(go_simp;rfl));intro gb218 hg w8 hbox hb;have n0_:=zz (zk zq1 hb);have n1_:=zz (hbox);have n2_:=zz ((by rw [hg];exact (zi zq1):w.heap.size≤gb218));have n3_:=zz ((by rw [hg];exact (zi zq1):w.heap.size≤gb218));clear HB;have HB:=n0_;have BK218:=n1_;have GW218:=n2_;have GE218:=n3_;clear n0_ n1_ n2_ n3_;clear hb hbox hg;have hcz9_0:w8.cell? ⟨gb218,0,none⟩=some (.int .i64 a0_0):=(ze BK218.out 0).trans rfl;have hcz9_1:w8.cell? ⟨gb218,1,none⟩=some (.int .i64 a0_1):=(ze BK218.out 1).trans rfl;have hcz9_2:w8.cell? ⟨gb218,2,none⟩=some (.int .i64 a0_2):=(ze BK218.out 2).trans rfl;have hcz9_3:w8.cell? ⟨gb218,3,none⟩=some (.slice A0_3 l0_3.length c0_3):=(ze BK218.out 3).trans rfl;have hfz9_0:=zd BK218.out 0;have hfz9_1:=zd BK218.out 1;have hfz9_2:=zd BK218.out 2;have hfz9_3:=zd BK218.out 3)|((with_reducible refine zB (f:=75) rfl ?_);refine zO (some 8) rfl rfl Tryz.func75 zq7 rfl #[.slice A0_3 l0_3.length c0_3,.int .i64 a1] rfl zq4 ?_;(with_reducible refine (laws_szFreeS.calls k _ _ l0_3 a1 t219 _ ?side1 ?side2 A3.out).mono ?_);(case side1=>repeat (first|exact (Kd.C_below HR0_3.out HB.out)|(with_reducible refine Kd.C_alloc ?_ _)|(with_reducible refine Kd.C_drewN ?_ _)|(with_reducible refine Kd.C_drew ?_)));(case side2=>exact HC0_3.out);rintro e w10 ⟨rfl,hb⟩;refine ⟨_,rfl,?_⟩;have n0_:=zz (zu (g:=gb218) (o:= .cells #[.int .i64 a0_0,.int .i64 a0_1,.int .i64 a0_2,.slice A0_3 l0_3.length c0_3] 24 (0,0)) (zq0 BK218.out) hb);have n1_:=zz (zk (zq3 GE218.out) hb);clear BK218;clear HB;have BK218:=n0_;have HB:=n1_;clear n0_ n1_;(try clear hb);(try clear hb2);(try clear hk);(try clear hi)))
  go_ret
  exact ⟨by first|rfl|(simp [zx,zw]<;>rfl)|(simp [*,zx,zw]<;>rfl),by repeat (first|(with_reducible first|exact HB.out|apply zg|apply zf|apply zm|refine zr ?_ GE218.out)|exact HB.out)⟩
def laws_szTxn.f (k:Nat) (a0_0:Int) (a0_1:Int) (a0_2:Int) (l0_3:List (S140)) (l0_4:List ByteArray) (l0_5:List (S156)) (a0_6:Int) (l0_7:List Int) (l0_8:List Int) (l0_9:List Int) (a0_10:Int) (a1:Int):Option (Int):=(laws_szMeta.f k a0_0 a0_1 a0_2 l0_3 a1).bind fun t221=>(if t221<0 then (some (-1)) else ((laws_szWork.f k l0_4 l0_5 a0_6 l0_7 l0_8 l0_9 t221).bind fun t222=>(if t222<0 then (some (-1)) else (some t222))))
theorem laws_szTxn.calls (k:Nat) (a0_0:Int) (a0_1:Int) (a0_2:Int) (A0_3:Option Addr) (c0_3:Nat) (l0_3:List (S140)) (A0_4:Option Addr) (c0_4:Nat) (l0_4:List ByteArray) (A0_5:Option Addr) (c0_5:Nat) (l0_5:List (S156)) (a0_6:Int) (A0_7:Option Addr) (c0_7:Nat) (l0_7:List Int) (A0_8:Option Addr) (c0_8:Nat) (l0_8:List Int) (A0_9:Option Addr) (c0_9:Nat) (l0_9:List Int) (a0_10:Int) (a1:Int) (r:Int) (w:World) (hr0_3:Kd.C k140 w A0_3 l0_3.length l0_3) (hc0_3:l0_3.length≤c0_3) (hr0_4:Kd.C Kd.string w A0_4 l0_4.length l0_4) (hc0_4:l0_4.length≤c0_4) (hr0_5:Kd.C k156 w A0_5 l0_5.length l0_5) (hc0_5:l0_5.length≤c0_5) (hr0_7:Kd.C (Kd.int .i64) w A0_7 l0_7.length l0_7) (hc0_7:l0_7.length≤c0_7) (hr0_8:Kd.C (Kd.int .i64) w A0_8 l0_8.length l0_8) (hc0_8:l0_8.length≤c0_8) (hr0_9:Kd.C (Kd.int .i64) w A0_9 l0_9.length l0_9) (hc0_9:l0_9.length≤c0_9) (h:laws_szTxn.f k a0_0 a0_1 a0_2 l0_3 l0_4 l0_5 a0_6 l0_7 l0_8 l0_9 a0_10 a1=some r):
  Calls Tryz.prog 6 #[.agg #[.int .i64 a0_0,.int .i64 a0_1,.int .i64 a0_2,.slice A0_3 l0_3.length c0_3,.slice A0_4 l0_4.length c0_4,.slice A0_5 l0_5.length c0_5,.int .i64 a0_6,.slice A0_7 l0_7.length c0_7,.slice A0_8 l0_8.length c0_8,.slice A0_9 l0_9.length c0_9,.int .i64 a0_10],.int .i64 a1] w fun e w'=>e= .returned (.int .i64 r)∧Below w.heap.size w w':=by
 have hu72:=Tryz.underlying33
 have hu69:=Tryz.underlying24
 have hu28:=Tryz.underlying31
 have HR0_3:=zz hr0_3
 have HC0_3:=zz hc0_3
 clear hr0_3 hc0_3
 have HR0_4:=zz hr0_4
 have HC0_4:=zz hc0_4
 clear hr0_4 hc0_4
 have HR0_5:=zz hr0_5
 have HC0_5:=zz hc0_5
 clear hr0_5 hc0_5
 have HR0_7:=zz hr0_7
 have HC0_7:=zz hc0_7
 clear hr0_7 hc0_7
 have HR0_8:=zz hr0_8
 have HC0_8:=zz hc0_8
 clear hr0_8 hc0_8
 have HR0_9:=zz hr0_9
 have HC0_9:=zz hc0_9
 clear hr0_9 hc0_9
 have HB:=zz (Below.refl w.heap.size w)
 have H:((laws_szMeta.f k a0_0 a0_1 a0_2 l0_3 a1).bind fun t221=>(if t221<0 then (some (-1)) else ((laws_szWork.f k l0_4 l0_5 a0_6 l0_7 l0_8 l0_9 t221).bind fun t222=>(if t222<0 then (some (-1)) else (some t222)))))=some r:=h
 clear h
 replace H:=Option.bind_eq_some_iff.mp H
 obtain ⟨t221,A30,H⟩:=H
 replace H:(if t221<0 then (some (-1)) else ((laws_szWork.f k l0_4 l0_5 a0_6 l0_7 l0_8 l0_9 t221).bind fun t222=>(if t222<0 then (some (-1)) else (some t222))))=some r:=H
 have A3:=zz A30
 clear A30
 by_cases c4:t221<0
 ·rw [if_pos c4] at H
  have c4b0:decide (t221<0)=true:=decide_eq_true c4
  clear c4
  obtain rfl:=Option.some.inj H
  go_enter Tryz.func6,Tryz.ntmps6
  go_wp2_with (first|((with_reducible refine zv (N:=2) rfl ?_);refine zE ?hg (N:=2) ?hd (cs:= #[.int .i64 a0_0,.int .i64 a0_1,.int .i64 a0_2,.slice A0_3 l0_3.length c0_3,.slice A0_4 l0_4.length c0_4,.slice A0_5 l0_5.length c0_5,.int .i64 a0_6,.slice A0_7 l0_7.length c0_7,.slice A0_8 l0_8.length c0_8,.slice A0_9 l0_9.length c0_9,.int .i64 a0_10]) (t:=33) ?hr ?_;(case hd=>rfl);(case hg=>rfl);(case hr=>first|(go_simp;done)|(go_simp;rfl));intro gb220 hg w5 hbox hb;have n0_:=zz (zk zq1 hb);have n1_:=zz (hbox);have n2_:=zz ((by rw [hg];exact (zi zq1):w.heap.size≤gb220));have n3_:=zz ((by rw [hg];exact (zi zq1):w.heap.size≤gb220));clear HB;have HB:=n0_;have BK220:=n1_;have GW220:=n2_;have GE220:=n3_;clear n0_ n1_ n2_ n3_;clear hb hbox hg;have hcz6_0:w5.cell? ⟨gb220,0,none⟩=some (.int .i64 a0_0):=(ze BK220.out 0).trans rfl;have hcz6_1:w5.cell? ⟨gb220,1,none⟩=some (.int .i64 a0_1):=(ze BK220.out 1).trans rfl;have hcz6_2:w5.cell? ⟨gb220,2,none⟩=some (.int .i64 a0_2):=(ze BK220.out 2).trans rfl;have hcz6_3:w5.cell? ⟨gb220,3,none⟩=some (.slice A0_3 l0_3.length c0_3):=(ze BK220.out 3).trans rfl;have hcz6_4:w5.cell? ⟨gb220,4,none⟩=some (.slice A0_4 l0_4.length c0_4):=(ze BK220.out 4).trans rfl;have hcz6_5:w5.cell? ⟨gb220,5,none⟩=some (.slice A0_5 l0_5.length c0_5):=(ze BK220.out 5).trans rfl;have hcz6_6:w5.cell? ⟨gb220,6,none⟩=some (.int .i64 a0_6):=(ze BK220.out 6).trans rfl;have hcz6_7:w5.cell? ⟨gb220,7,none⟩=some (.slice A0_7 l0_7.length c0_7):=(ze BK220.out 7).trans rfl;have hcz6_8:w5.cell? ⟨gb220,8,none⟩=some (.slice A0_8 l0_8.length c0_8):=(ze BK220.out 8).trans rfl;have hcz6_9:w5.cell? ⟨gb220,9,none⟩=some (.slice A0_9 l0_9.length c0_9):=(ze BK220.out 9).trans rfl;have hcz6_10:w5.cell? ⟨gb220,10,none⟩=some (.int .i64 a0_10):=(ze BK220.out 10).trans rfl;have hfz6_0:=zd BK220.out 0;have hfz6_1:=zd BK220.out 1;have hfz6_2:=zd BK220.out 2;have hfz6_3:=zd BK220.out 3;have hfz6_4:=zd BK220.out 4;have hfz6_5:=zd BK220.out 5;have hfz6_6:=zd BK220.out 6;have hfz6_7:=zd BK220.out 7;have hfz6_8:=zd BK220.out 8;have hfz6_9:=zd BK220.out 9;have hfz6_10:=zd BK220.out 10)|((with_reducible refine zB (f:=30) rfl ?_);refine zO (some 8) rfl rfl Tryz.func30 zq7 rfl #[.agg #[.int .i64 a0_0,.int .i64 a0_1,.int .i64 a0_2,.slice A0_3 l0_3.length c0_3],.int .i64 a1] rfl zq4 ?_;(with_reducible refine (laws_szMeta.calls k a0_0 a0_1 a0_2 _ _ l0_3 a1 t221 _ ?side1 ?side2 A3.out).mono ?_);(case side1=>repeat (first|exact (Kd.C_below HR0_3.out HB.out)|(with_reducible refine Kd.C_alloc ?_ _)|(with_reducible refine Kd.C_drewN ?_ _)|(with_reducible refine Kd.C_drew ?_)));(case side2=>exact HC0_3.out);rintro e w7 ⟨rfl,hb⟩;refine ⟨_,rfl,?_⟩;have n0_:=zz (zu (g:=gb220) (o:= .cells #[.int .i64 a0_0,.int .i64 a0_1,.int .i64 a0_2,.slice A0_3 l0_3.length c0_3,.slice A0_4 l0_4.length c0_4,.slice A0_5 l0_5.length c0_5,.int .i64 a0_6,.slice A0_7 l0_7.length c0_7,.slice A0_8 l0_8.length c0_8,.slice A0_9 l0_9.length c0_9,.int .i64 a0_10] 33 (0,0)) (zq0 BK220.out) hb);have n1_:=zz (zk (zq3 GE220.out) hb);clear BK220;clear HB;have BK220:=n0_;have HB:=n1_;clear n0_ n1_;(try clear hb);(try clear hb2);(try clear hk);(try clear hi)))
  go_ret
  exact ⟨by first|rfl|(simp [zx,zw]<;>rfl)|(simp [*,zx,zw]<;>rfl),by repeat (first|(with_reducible first|exact HB.out|apply zg|apply zf|apply zm|refine zr ?_ GE220.out)|exact HB.out)⟩
 ·rw [if_neg c4] at H
  have c4b0:decide (t221<0)=false:=decide_eq_false c4
  clear c4
  replace H:=Option.bind_eq_some_iff.mp H
  obtain ⟨t222,A80,H⟩:=H
  replace H:(if t222<0 then (some (-1)) else (some t222))=some r:=H
  have A8:=zz A80
  clear A80
  by_cases c9:t222<0
  ·rw [if_pos c9] at H
   have c9b0:decide (t222<0)=true:=decide_eq_true c9
   clear c9
   obtain rfl:=Option.some.inj H
   go_enter Tryz.func6,Tryz.ntmps6
   go_wp2_with (first|((with_reducible refine zv (N:=2) rfl ?_);refine zE ?hg (N:=2) ?hd (cs:= #[.int .i64 a0_0,.int .i64 a0_1,.int .i64 a0_2,.slice A0_3 l0_3.length c0_3,.slice A0_4 l0_4.length c0_4,.slice A0_5 l0_5.length c0_5,.int .i64 a0_6,.slice A0_7 l0_7.length c0_7,.slice A0_8 l0_8.length c0_8,.slice A0_9 l0_9.length c0_9,.int .i64 a0_10]) (t:=33) ?hr ?_;(case hd=>rfl);(case hg=>rfl);(case hr=>first|(go_simp;done)|(go_simp;rfl));intro gb220 hg w10 hbox hb;have n0_:=zz (zk zq1 hb);have n1_:=zz (hbox);have n2_:=zz ((by rw [hg];exact (zi zq1):w.heap.size≤gb220));have n3_:=zz ((by rw [hg];exact (zi zq1):w.heap.size≤gb220));clear HB;have HB:=n0_;have BK220:=n1_;have GW220:=n2_;have GE220:=n3_;clear n0_ n1_ n2_ n3_;clear hb hbox hg;have hcz11_0:w10.cell? ⟨gb220,0,none⟩=some (.int .i64 a0_0):=(ze BK220.out 0).trans rfl;have hcz11_1:w10.cell? ⟨gb220,1,none⟩=some (.int .i64 a0_1):=(ze BK220.out 1).trans rfl;have hcz11_2:w10.cell? ⟨gb220,2,none⟩=some (.int .i64 a0_2):=(ze BK220.out 2).trans rfl;have hcz11_3:w10.cell? ⟨gb220,3,none⟩=some (.slice A0_3 l0_3.length c0_3):=(ze BK220.out 3).trans rfl;have hcz11_4:w10.cell? ⟨gb220,4,none⟩=some (.slice A0_4 l0_4.length c0_4):=(ze BK220.out 4).trans rfl;have hcz11_5:w10.cell? ⟨gb220,5,none⟩=some (.slice A0_5 l0_5.length c0_5):=(ze BK220.out 5).trans rfl;have hcz11_6:w10.cell? ⟨gb220,6,none⟩=some (.int .i64 a0_6):=(ze BK220.out 6).trans rfl;have hcz11_7:w10.cell? ⟨gb220,7,none⟩=some (.slice A0_7 l0_7.length c0_7):=(ze BK220.out 7).trans rfl;have hcz11_8:w10.cell? ⟨gb220,8,none⟩=some (.slice A0_8 l0_8.length c0_8):=(ze BK220.out 8).trans rfl;have hcz11_9:w10.cell? ⟨gb220,9,none⟩=some (.slice A0_9 l0_9.length c0_9):=(ze BK220.out 9).trans rfl;have hcz11_10:w10.cell? ⟨gb220,10,none⟩=some (.int .i64 a0_10):=(ze BK220.out 10).trans rfl;have hfz11_0:=zd BK220.out 0;have hfz11_1:=zd BK220.out 1;have hfz11_2:=zd BK220.out 2;have hfz11_3:=zd BK220.out 3;have hfz11_4:=zd BK220.out 4;have hfz11_5:=zd BK220.out 5;have hfz11_6:=zd BK220.out 6;have hfz11_7:=zd BK220.out 7;have hfz11_8:=zd BK220.out 8;have hfz11_9:=zd BK220.out 9;have hfz11_10:=zd BK220.out 10)|((with_reducible refine zB (f:=30) rfl ?_);refine zO (some 8) rfl rfl Tryz.func30 zq7 rfl #[.agg #[.int .i64 a0_0,.int .i64 a0_1,.int .i64 a0_2,.slice A0_3 l0_3.length c0_3],.int .i64 a1] rfl zq4 ?_;(with_reducible refine (laws_szMeta.calls k a0_0 a0_1 a0_2 _ _ l0_3 a1 t221 _ ?side1 ?side2 A3.out).mono ?_);(case side1=>repeat (first|exact (Kd.C_below HR0_3.out HB.out)|(with_reducible refine Kd.C_alloc ?_ _)|(with_reducible refine Kd.C_drewN ?_ _)|(with_reducible refine Kd.C_drew ?_)));(case side2=>exact HC0_3.out);rintro e w12 ⟨rfl,hb⟩;refine ⟨_,rfl,?_⟩;have n0_:=zz (zu (g:=gb220) (o:= .cells #[.int .i64 a0_0,.int .i64 a0_1,.int .i64 a0_2,.slice A0_3 l0_3.length c0_3,.slice A0_4 l0_4.length c0_4,.slice A0_5 l0_5.length c0_5,.int .i64 a0_6,.slice A0_7 l0_7.length c0_7,.slice A0_8 l0_8.length c0_8,.slice A0_9 l0_9.length c0_9,.int .i64 a0_10] 33 (0,0)) (zq0 BK220.out) hb);have n1_:=zz (zk (zq3 GE220.out) hb);clear BK220;clear HB;have BK220:=n0_;have HB:=n1_;clear n0_ n1_;(try clear hb);(try clear hb2);(try clear hk);(try clear hi);have hcz13_0:w12.cell? ⟨gb220,0,none⟩=some (.int .i64 a0_0):=(ze BK220.out 0).trans rfl;have hcz13_1:w12.cell? ⟨gb220,1,none⟩=some (.int .i64 a0_1):=(ze BK220.out 1).trans rfl;have hcz13_2:w12.cell? ⟨gb220,2,none⟩=some (.int .i64 a0_2):=(ze BK220.out 2).trans rfl;have hcz13_3:w12.cell? ⟨gb220,3,none⟩=some (.slice A0_3 l0_3.length c0_3):=(ze BK220.out 3).trans rfl;have hcz13_4:w12.cell? ⟨gb220,4,none⟩=some (.slice A0_4 l0_4.length c0_4):=(ze BK220.out 4).trans rfl;have hcz13_5:w12.cell? ⟨gb220,5,none⟩=some (.slice A0_5 l0_5.length c0_5):=(ze BK220.out 5).trans rfl;have hcz13_6:w12.cell? ⟨gb220,6,none⟩=some (.int .i64 a0_6):=(ze BK220.out 6).trans rfl;have hcz13_7:w12.cell? ⟨gb220,7,none⟩=some (.slice A0_7 l0_7.length c0_7):=(ze BK220.out 7).trans rfl;have hcz13_8:w12.cell? ⟨gb220,8,none⟩=some (.slice A0_8 l0_8.length c0_8):=(ze BK220.out 8).trans rfl;have hcz13_9:w12.cell? ⟨gb220,9,none⟩=some (.slice A0_9 l0_9.length c0_9):=(ze BK220.out 9).trans rfl;have hcz13_10:w12.cell? ⟨gb220,10,none⟩=some (.int .i64 a0_10):=(ze BK220.out 10).trans rfl;have hfz13_0:=zd BK220.out 0;have hfz13_1:=zd BK220.out 1;have hfz13_2:=zd BK220.out 2;have hfz13_3:=zd BK220.out 3;have hfz13_4:=zd BK220.out 4;have hfz13_5:=zd BK220.out 5;have hfz13_6:=zd BK220.out 6;have hfz13_7:=zd BK220.out 7;have hfz13_8:=zd BK220.out 8;have hfz13_9:=zd BK220.out 9;have hfz13_10:=zd BK220.out 10)|((with_reducible refine zB (f:=31) rfl ?_);refine zO (some 14) rfl rfl Tryz.func31 zq7 rfl #[.agg #[.slice A0_4 l0_4.length c0_4,.slice A0_5 l0_5.length c0_5,.int .i64 a0_6,.slice A0_7 l0_7.length c0_7,.slice A0_8 l0_8.length c0_8,.slice A0_9 l0_9.length c0_9],.int .i64 t221] rfl zq4 ?_;(with_reducible refine (laws_szWork.calls k _ _ l0_4 _ _ l0_5 a0_6 _ _ l0_7 _ _ l0_8 _ _ l0_9 t221 t222 _ ?side1 ?side2 ?side3 ?side4 ?side5 ?side6 ?side7 ?side8 ?side9 ?side10 A8.out).mono ?_);(case side1=>repeat (first|exact (Kd.C_below HR0_4.out HB.out)|(with_reducible refine Kd.C_alloc ?_ _)|(with_reducible refine Kd.C_drewN ?_ _)|(with_reducible refine Kd.C_drew ?_)));(case side2=>exact HC0_4.out);(case side3=>repeat (first|exact (Kd.C_below HR0_5.out HB.out)|(with_reducible refine Kd.C_alloc ?_ _)|(with_reducible refine Kd.C_drewN ?_ _)|(with_reducible refine Kd.C_drew ?_)));(case side4=>exact HC0_5.out);(case side5=>repeat (first|exact (Kd.C_below HR0_7.out HB.out)|(with_reducible refine Kd.C_alloc ?_ _)|(with_reducible refine Kd.C_drewN ?_ _)|(with_reducible refine Kd.C_drew ?_)));(case side6=>exact HC0_7.out);(case side7=>repeat (first|exact (Kd.C_below HR0_8.out HB.out)|(with_reducible refine Kd.C_alloc ?_ _)|(with_reducible refine Kd.C_drewN ?_ _)|(with_reducible refine Kd.C_drew ?_)));(case side8=>exact HC0_8.out);(case side9=>repeat (first|exact (Kd.C_below HR0_9.out HB.out)|(with_reducible refine Kd.C_alloc ?_ _)|(with_reducible refine Kd.C_drewN ?_ _)|(with_reducible refine Kd.C_drew ?_)));(case side10=>exact HC0_9.out);rintro e w14 ⟨rfl,hb⟩;refine ⟨_,rfl,?_⟩;have n0_:=zz (zu (g:=gb220) (o:= .cells #[.int .i64 a0_0,.int .i64 a0_1,.int .i64 a0_2,.slice A0_3 l0_3.length c0_3,.slice A0_4 l0_4.length c0_4,.slice A0_5 l0_5.length c0_5,.int .i64 a0_6,.slice A0_7 l0_7.length c0_7,.slice A0_8 l0_8.length c0_8,.slice A0_9 l0_9.length c0_9,.int .i64 a0_10] 33 (0,0)) (zq0 BK220.out) hb);have n1_:=zz (zk (zq3 GE220.out) hb);clear BK220;clear HB;have BK220:=n0_;have HB:=n1_;clear n0_ n1_;(try clear hb);(try clear hb2);(try clear hk);(try clear hi)))
   go_ret
   exact ⟨by first|rfl|(simp [zx,zw]<;>rfl)|(simp [*,zx,zw]<;>rfl),by repeat (first|(with_reducible first|exact HB.out|apply zg|apply zf|apply zm|refine zr ?_ GE220.out)|exact HB.out)⟩
  ·rw [if_neg c9] at H
   have c9b0:decide (t222<0)=false:=decide_eq_false c9
   clear c9
   obtain rfl:=Option.some.inj H
   go_enter Tryz.func6,Tryz.ntmps6
   go_wp2_with (first|((with_reducible refine zv (N:=2) rfl ?_);refine zE ?hg (N:=2) ?hd (cs:= #[.int .i64 a0_0,.int .i64 a0_1,.int .i64 a0_2,.slice A0_3 l0_3.length c0_3,.slice A0_4 l0_4.length c0_4,.slice A0_5 l0_5.length c0_5,.int .i64 a0_6,.slice A0_7 l0_7.length c0_7,.slice A0_8 l0_8.length c0_8,.slice A0_9 l0_9.length c0_9,.int .i64 a0_10]) (t:=33) ?hr ?_;(case hd=>rfl);(case hg=>rfl);(case hr=>first|(go_simp;done)|(go_simp;rfl));intro gb220 hg w15 hbox hb;have n0_:=zz (zk zq1 hb);have n1_:=zz (hbox);have n2_:=zz ((by rw [hg];exact (zi zq1):w.heap.size≤gb220));have n3_:=zz ((by rw [hg];exact (zi zq1):w.heap.size≤gb220));clear HB;have HB:=n0_;have BK220:=n1_;have GW220:=n2_;have GE220:=n3_;clear n0_ n1_ n2_ n3_;clear hb hbox hg;have hcz16_0:w15.cell? ⟨gb220,0,none⟩=some (.int .i64 a0_0):=(ze BK220.out 0).trans rfl;have hcz16_1:w15.cell? ⟨gb220,1,none⟩=some (.int .i64 a0_1):=(ze BK220.out 1).trans rfl;have hcz16_2:w15.cell? ⟨gb220,2,none⟩=some (.int .i64 a0_2):=(ze BK220.out 2).trans rfl;have hcz16_3:w15.cell? ⟨gb220,3,none⟩=some (.slice A0_3 l0_3.length c0_3):=(ze BK220.out 3).trans rfl;have hcz16_4:w15.cell? ⟨gb220,4,none⟩=some (.slice A0_4 l0_4.length c0_4):=(ze BK220.out 4).trans rfl;have hcz16_5:w15.cell? ⟨gb220,5,none⟩=some (.slice A0_5 l0_5.length c0_5):=(ze BK220.out 5).trans rfl;have hcz16_6:w15.cell? ⟨gb220,6,none⟩=some (.int .i64 a0_6):=(ze BK220.out 6).trans rfl;have hcz16_7:w15.cell? ⟨gb220,7,none⟩=some (.slice A0_7 l0_7.length c0_7):=(ze BK220.out 7).trans rfl;have hcz16_8:w15.cell? ⟨gb220,8,none⟩=some (.slice A0_8 l0_8.length c0_8):=(ze BK220.out 8).trans rfl;have hcz16_9:w15.cell? ⟨gb220,9,none⟩=some (.slice A0_9 l0_9.length c0_9):=(ze BK220.out 9).trans rfl;have hcz16_10:w15.cell? ⟨gb220,10,none⟩=some (.int .i64 a0_10):=(ze BK220.out 10).trans rfl;have hfz16_0:=zd BK220.out 0;have hfz16_1:=zd BK220.out 1;have hfz16_2:=zd BK220.out 2;have hfz16_3:=zd BK220.out 3;have hfz16_4:=zd BK220.out 4;have hfz16_5:=zd BK220.out 5;have hfz16_6:=zd BK220.out 6;have hfz16_7:=zd BK220.out 7;have hfz16_8:=zd BK220.out 8;have hfz16_9:=zd BK220.out 9;have hfz16_10:=zd BK220.out 10)|((with_reducible refine zB (f:=30) rfl ?_);refine zO (some 8) rfl rfl Tryz.func30 zq7 rfl #[.agg #[.int .i64 a0_0,.int .i64 a0_1,.int .i64 a0_2,.slice A0_3 l0_3.length c0_3],.int .i64 a1] rfl zq4 ?_;(with_reducible refine (laws_szMeta.calls k a0_0 a0_1 a0_2 _ _ l0_3 a1 t221 _ ?side1 ?side2 A3.out).mono ?_);(case side1=>repeat (first|exact (Kd.C_below HR0_3.out HB.out)|(with_reducible refine Kd.C_alloc ?_ _)|(with_reducible refine Kd.C_drewN ?_ _)|(with_reducible refine Kd.C_drew ?_)));(case side2=>exact HC0_3.out);rintro e w17 ⟨rfl,hb⟩;refine ⟨_,rfl,?_⟩;have n0_:=zz (zu (g:=gb220) (o:= .cells #[.int .i64 a0_0,.int .i64 a0_1,.int .i64 a0_2,.slice A0_3 l0_3.length c0_3,.slice A0_4 l0_4.length c0_4,.slice A0_5 l0_5.length c0_5,.int .i64 a0_6,.slice A0_7 l0_7.length c0_7,.slice A0_8 l0_8.length c0_8,.slice A0_9 l0_9.length c0_9,.int .i64 a0_10] 33 (0,0)) (zq0 BK220.out) hb);have n1_:=zz (zk (zq3 GE220.out) hb);clear BK220;clear HB;have BK220:=n0_;have HB:=n1_;clear n0_ n1_;(try clear hb);(try clear hb2);(try clear hk);(try clear hi);have hcz18_0:w17.cell? ⟨gb220,0,none⟩=some (.int .i64 a0_0):=(ze BK220.out 0).trans rfl;have hcz18_1:w17.cell? ⟨gb220,1,none⟩=some (.int .i64 a0_1):=(ze BK220.out 1).trans rfl;have hcz18_2:w17.cell? ⟨gb220,2,none⟩=some (.int .i64 a0_2):=(ze BK220.out 2).trans rfl;have hcz18_3:w17.cell? ⟨gb220,3,none⟩=some (.slice A0_3 l0_3.length c0_3):=(ze BK220.out 3).trans rfl;have hcz18_4:w17.cell? ⟨gb220,4,none⟩=some (.slice A0_4 l0_4.length c0_4):=(ze BK220.out 4).trans rfl;have hcz18_5:w17.cell? ⟨gb220,5,none⟩=some (.slice A0_5 l0_5.length c0_5):=(ze BK220.out 5).trans rfl;have hcz18_6:w17.cell? ⟨gb220,6,none⟩=some (.int .i64 a0_6):=(ze BK220.out 6).trans rfl;have hcz18_7:w17.cell? ⟨gb220,7,none⟩=some (.slice A0_7 l0_7.length c0_7):=(ze BK220.out 7).trans rfl;have hcz18_8:w17.cell? ⟨gb220,8,none⟩=some (.slice A0_8 l0_8.length c0_8):=(ze BK220.out 8).trans rfl;have hcz18_9:w17.cell? ⟨gb220,9,none⟩=some (.slice A0_9 l0_9.length c0_9):=(ze BK220.out 9).trans rfl;have hcz18_10:w17.cell? ⟨gb220,10,none⟩=some (.int .i64 a0_10):=(ze BK220.out 10).trans rfl;have hfz18_0:=zd BK220.out 0;have hfz18_1:=zd BK220.out 1;have hfz18_2:=zd BK220.out 2;have hfz18_3:=zd BK220.out 3;have hfz18_4:=zd BK220.out 4;have hfz18_5:=zd BK220.out 5;have hfz18_6:=zd BK220.out 6;have hfz18_7:=zd BK220.out 7;have hfz18_8:=zd BK220.out 8;have hfz18_9:=zd BK220.out 9;have hfz18_10:=zd BK220.out 10)|((with_reducible refine zB (f:=31) rfl ?_);refine zO (some 14) rfl rfl Tryz.func31 zq7 rfl #[.agg #[.slice A0_4 l0_4.length c0_4,.slice A0_5 l0_5.length c0_5,.int .i64 a0_6,.slice A0_7 l0_7.length c0_7,.slice A0_8 l0_8.length c0_8,.slice A0_9 l0_9.length c0_9],.int .i64 t221] rfl zq4 ?_;(with_reducible refine (laws_szWork.calls k _ _ l0_4 _ _ l0_5 a0_6 _ _ l0_7 _ _ l0_8 _ _ l0_9 t221 t222 _ ?side1 ?side2 ?side3 ?side4 ?side5 ?side6 ?side7 ?side8 ?side9 ?side10 A8.out).mono ?_);(case side1=>repeat (first|exact (Kd.C_below HR0_4.out HB.out)|(with_reducible refine Kd.C_alloc ?_ _)|(with_reducible refine Kd.C_drewN ?_ _)|(with_reducible refine Kd.C_drew ?_)));(case side2=>exact HC0_4.out);(case side3=>repeat (first|exact (Kd.C_below HR0_5.out HB.out)|(with_reducible refine Kd.C_alloc ?_ _)|(with_reducible refine Kd.C_drewN ?_ _)|(with_reducible refine Kd.C_drew ?_)));(case side4=>exact HC0_5.out);(case side5=>repeat (first|exact (Kd.C_below HR0_7.out HB.out)|(with_reducible refine Kd.C_alloc ?_ _)|(with_reducible refine Kd.C_drewN ?_ _)|(with_reducible refine Kd.C_drew ?_)));(case side6=>exact HC0_7.out);(case side7=>repeat (first|exact (Kd.C_below HR0_8.out HB.out)|(with_reducible refine Kd.C_alloc ?_ _)|(with_reducible refine Kd.C_drewN ?_ _)|(with_reducible refine Kd.C_drew ?_)));(case side8=>exact HC0_8.out);(case side9=>repeat (first|exact (Kd.C_below HR0_9.out HB.out)|(with_reducible refine Kd.C_alloc ?_ _)|(with_reducible refine Kd.C_drewN ?_ _)|(with_reducible refine Kd.C_drew ?_)));(case side10=>exact HC0_9.out);rintro e w19 ⟨rfl,hb⟩;refine ⟨_,rfl,?_⟩;have n0_:=zz (zu (g:=gb220) (o:= .cells #[.int .i64 a0_0,.int .i64 a0_1,.int .i64 a0_2,.slice A0_3 l0_3.length c0_3,.slice A0_4 l0_4.length c0_4,.slice A0_5 l0_5.length c0_5,.int .i64 a0_6,.slice A0_7 l0_7.length c0_7,.slice A0_8 l0_8.length c0_8,.slice A0_9 l0_9.length c0_9,.int .i64 a0_10] 33 (0,0)) (zq0 BK220.out) hb);have n1_:=zz (zk (zq3 GE220.out) hb);clear BK220;clear HB;have BK220:=n0_;have HB:=n1_;clear n0_ n1_;(try clear hb);(try clear hb2);(try clear hk);(try clear hi)))
   go_ret
   exact ⟨by first|rfl|(simp [zx,zw]<;>rfl)|(simp [*,zx,zw]<;>rfl),by repeat (first|(with_reducible first|exact HB.out|apply zg|apply zf|apply zm|refine zr ?_ GE220.out)|exact HB.out)⟩
def szTxn_c_f (k:Nat) (z0:(S24×(List ByteArray×List S156×Int×List Int×List Int×List Int)×Int)) (a:Int):Option Int:=laws_szTxn.f k z0.1.f0 z0.1.f1 z0.1.f2 z0.1.f3 z0.2.1.1 z0.2.1.2.1 z0.2.1.2.2.1 z0.2.1.2.2.2.1 z0.2.1.2.2.2.2.1 z0.2.1.2.2.2.2.2 z0.2.2 a
theorem szTxn_c (k:Nat) (z0:(S24×(List ByteArray×List S156×Int×List Int×List Int×List Int)×Int)) {cs0:List Value} (a:Int) (r:Int) (w:World) (h0:kTxnL.K w z0 cs0) (hf:szTxn_c_f k z0 a=some r):
  Calls Tryz.prog 6 #[.agg cs0.toArray,.int .i64 a] w fun e w'=>e= .returned (.int .i64 r)∧Below w.heap.size w w':=by
 obtain ⟨y_0,⟨l_00,l_01,l_02,l_03,l_04,l_05⟩,n_0⟩:=z0
 obtain ⟨u_00_,_,rfl,g_00,u_01_,u_02_,rfl,g_01,g_02⟩:=h0
 obtain ⟨A_00,c_00,rfl,m_00,r_00⟩:=k24_open g_00
 obtain ⟨A_010,c_010,A_011,c_011,A_013,c_013,A_014,c_014,A_015,c_015,rfl,m_010,r_010,m_011,r_011,m_013,r_013,m_014,r_014,m_015,r_015⟩:=kWorkL_open g_01
 obtain rfl:u_02_=[.int .i64 n_0]:=g_02
 exact laws_szTxn.calls k y_0.f0 y_0.f1 y_0.f2 A_00 c_00 y_0.f3 A_010 c_010 l_00 A_011 c_011 l_01 l_02 A_013 c_013 l_03 A_014 c_014 l_04 A_015 c_015 l_05 n_0 a r w r_00 m_00 r_010 m_010 r_011 m_011 r_013 m_013 r_014 m_014 r_015 m_015 hf
theorem Env.mbound {w0 W:World} {top:Nat} {fs:List Fct} (E:Env w0 W top fs) (i:Nat) {α:Type} {d:Kd α} {base lo hi:Nat} {ok:Nat→Prop} {x:α} {cs:List Value} (hf:fs[i]?=some (Fct.made d base lo hi ok x cs)):∀k,ok k∧Iv lo hi k→k<W.heap.size:=
 fun k hk=>Nat.lt_of_lt_of_le hk.2.2 (Nat.le_trans (All.get i E.all hf).1 E.le)
theorem Env.marked {w0 W W':World} {top:Nat} {fs:List Fct} (E:Env w0 W top fs) (i:Nat) {α:Type} {d:Kd α} {lo hi:Nat} {ok:Nat→Prop} {x x':α} {cs:List Value} (hf:fs[i]?=some (Fct.made d w0.heap.size lo hi ok x cs)) (M:d.M W' w0.heap.size (fun k=>ok k∧Iv lo hi k) x' cs) (hB:Below w0.heap.size w0 W') (hK:Kept W W' (fun k=>ok k∧Iv lo hi k)) (ho:Off2 lo hi fs i):Env w0 W' top (fs.set i (Fct.made d w0.heap.size lo hi ok x' cs)):=
 ⟨hB,Nat.le_trans E.le hK.1,E.ge,All.off2 (fun k hk h2=>hK.2 k (Nat.lt_of_lt_of_le hk E.le) (fun h=>by have h3:=h.2.1;have h4:=h.2.2;omega)) (Nat.le_refl _) (f':=Fct.made d w0.heap.size lo hi ok x' cs) (show hi≤top from (All.get i E.all hf).1) M i E.all ho⟩
end Go.Proofs.YtonhdiemjgdcnaaGreat.PFnExactGivePage
