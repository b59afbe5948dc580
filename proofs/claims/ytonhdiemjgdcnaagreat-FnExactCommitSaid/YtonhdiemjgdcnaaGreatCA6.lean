import Derived.Test.YtonhdiemjgdcnaaGreatCA5
set_option maxHeartbeats 64000000
set_option maxRecDepth 100000
set_option linter.unusedVariables false
set_option linter.unusedSimpArgs false
namespace Go.Proofs.YtonhdiemjgdcnaaGreat.PFnExactGivePage
open Go.RowKit Go.Proofs.YtonhdiemjgdcnaaGreatW.PrintWords Go.Proofs.YtonhdiemjgdcnaaGreatW.PrintLast Go.Proofs.YtonhdiemjgdcnaaGreatW.PrintMore
attribute [local go_sem] zka zma zta zsa zaa zba zja zla
def impl_cloneMeta.l0:Nat→List (S112)→List (S112)→Int→Int→Int→Int→Int→List (S112)→Option (Int×Int×Int×(List (S112)))
 |0,_,_,_,_,_,_,_,_=>none
 |k+1,x3,x7,x8,x9,x419000,x419001,x419002,x419003=>if x9<x8 then (if 0≤x9 then (if x9<(x7.length:Int) then ((slices_Clone_int_int.f ((zH x7 x9).f1)).bind fun t422=>(if x3.length<4398046511104 then (impl_cloneMeta.l0 k (x3++[(⟨(zH x7 x9).f0,t422⟩:S112)]) x7 x8 (wrap64 (x9+1)) x419000 x419001 x419002 x419003) else (none))) else (none)) else (none)) else (some (x419000,x419001,x419002,x3))
def impl_cloneMeta.f (k:Nat) (a0_0:Int) (a0_1:Int) (a0_2:Int) (l0_3:List (S112)):Option (Int×Int×Int×(List (S112))):=impl_cloneMeta.l0 k ([]:List (S112)) l0_3 (l0_3.length:Int) 0 a0_0 a0_1 a0_2 l0_3
def impl_cloneMeta.T5:Bool×List (List Nat×List Nat):=(true,[([],[]),([],[]),([1],[1]),([],[]),([3],[3]),([4],[4]),([2,5],[2,5]),([6],[6]),([0,7,5],[0,7]),([8,8,0,1,2,3,4,5,6,7,8],[0,8])])
def impl_cloneMeta.B5:List Nat:=[0,0,2,0,8,24,62,126,255,511]
theorem impl_cloneMeta.tab5:rtab .any (zQa Tryz.f44 5)=impl_cloneMeta.T5:=by kernel_rfl
theorem impl_cloneMeta.bits5:zLa impl_cloneMeta.T5.2 impl_cloneMeta.B5=true:=by kernel_rfl
theorem impl_cloneMeta.calls (k:Nat) (a0_0:Int) (a0_1:Int) (a0_2:Int) (A0_3:Option Addr) (c0_3:Nat) (l0_3:List (S112)) (r1:Int) (r2:Int) (r3:Int) (r4:List (S112)) (w:World) (hr0_3:Kd.C k112 w A0_3 l0_3.length l0_3) (hc0_3:l0_3.length≤c0_3) (h:impl_cloneMeta.f k a0_0 a0_1 a0_2 l0_3=some (r1,r2,r3,r4)):
  Calls Tryz.prog 44 #[.agg #[.int .i64 a0_0,.int .i64 a0_1,.int .i64 a0_2,.slice A0_3 l0_3.length c0_3]] w fun e w'=>∃v3_:Value,e= .returned (.agg #[.int .i64 r1,.int .i64 r2,.int .i64 r3,v3_])∧Kd.S k112 112 w' w.heap.size (fun _=>True) v3_ r4∧Below w.heap.size w w':=by
 have hu53:=Tryz.underlying40
 have hu122:=Tryz.underlying112
 have HR0_3:=zz hr0_3
 have HC0_3:=zz hc0_3
 clear hr0_3 hc0_3
 have HB:=zz (Below.refl w.heap.size w)
 have H:(impl_cloneMeta.l0 k ([]:List (S112)) l0_3 (l0_3.length:Int) 0 a0_0 a0_1 a0_2 l0_3)=some (r1,r2,r3,r4):=h
 clear h
 have H':=zz H
 clear H
 go_enter Tryz.func44,Tryz.ntmps44
 go_wp2_with (first|((with_reducible refine zn (N:=1) rfl ?_);refine zF ?hg (N:=1) ?hd (cs:= #[.int .i64 a0_0,.int .i64 a0_1,.int .i64 a0_2,.slice A0_3 l0_3.length c0_3]) (t:=40) ?hr ?_;(case hd=>rfl);(case hg=>rfl);(case hr=>first|(go_simp;done)|(go_simp;rfl));intro gb418 hg w2 hbox hb;have n0_:=zz (zh zq1 hb);have n1_:=zz (hbox);have n2_:=zz ((by rw [hg];exact (zi zq1):w.heap.size≤gb418));have n3_:=zz ((by rw [hg];exact (zi zq1):w.heap.size≤gb418));clear HB;have HB:=n0_;have BK418:=n1_;have GW418:=n2_;have GE418:=n3_;clear n0_ n1_ n2_ n3_;clear hb hbox hg)|((with_reducible refine zn (N:=2) rfl ?_);refine zF ?hg (N:=2) ?hd (cs:= #[.int .i64 0,.int .i64 0,.int .i64 0,.slice none 0 0]) (t:=40) ?hr ?_;(case hd=>rfl);(case hg=>rfl);(case hr=>first|(go_simp;done)|(go_simp;rfl));intro gb419 hg w3 hbox hb;have n0_:=zz (zo (g:=gb418) (o:= .cells #[.int .i64 a0_0,.int .i64 a0_1,.int .i64 a0_2,.slice A0_3 l0_3.length c0_3] 40 (0,0)) (zq0 BK418.out) hb);have n1_:=zz (zh (zq3 GE418.out) hb);have n2_:=zz (hbox);have n3_:=zz ((by rw [hg];exact (zi (zq3 GE418.out)):w.heap.size≤gb419));have n4_:=zz ((by rw [hg];exact (zi (zq3 GE418.out)):w.heap.size≤gb419));have n5_:=zz ((by rw [hg];exact Nat.ne_of_lt (zI (g:=gb418) (o:= .cells #[.int .i64 a0_0,.int .i64 a0_1,.int .i64 a0_2,.slice A0_3 l0_3.length c0_3] 40 (0,0)) (zq0 BK418.out)):gb418≠gb419));have n6_:=zz ((by rw [hg];exact Nat.ne_of_gt (zI (g:=gb418) (o:= .cells #[.int .i64 a0_0,.int .i64 a0_1,.int .i64 a0_2,.slice A0_3 l0_3.length c0_3] 40 (0,0)) (zq0 BK418.out)):gb419≠gb418));clear BK418;clear HB;have BK418:=n0_;have HB:=n1_;have BK419:=n2_;have GW419:=n3_;have GE419:=n4_;have NB418_419:=n5_;have NB419_418:=n6_;clear n0_ n1_ n2_ n3_ n4_ n5_ n6_;clear hb hbox hg;have hnb4:=NB418_419.out;have hnc4:=NB419_418.out;have hcz5_0:w3.cell? ⟨gb418,0,none⟩=some (.int .i64 a0_0):=(zd BK418.out 0).trans rfl;have hcz5_1:w3.cell? ⟨gb418,1,none⟩=some (.int .i64 a0_1):=(zd BK418.out 1).trans rfl;have hcz5_2:w3.cell? ⟨gb418,2,none⟩=some (.int .i64 a0_2):=(zd BK418.out 2).trans rfl;have hcz5_3:w3.cell? ⟨gb418,3,none⟩=some (.slice A0_3 l0_3.length c0_3):=(zd BK418.out 3).trans rfl;have hfz5_0:=ze BK418.out 0;have hfz5_1:=ze BK418.out 1;have hfz5_2:=ze BK418.out 2;have hfz5_3:=ze BK418.out 3))
 go_loopg [3,9] k (fun kq v3 v9 w'=>∃(x3_1:List (S112)) (x9_1:Int),v9= .int .i64 x9_1∧Z0 (impl_cloneMeta.l0 kq x3_1 l0_3 (l0_3.length:Int) x9_1 a0_0 a0_1 a0_2 l0_3=some (r1,r2,r3,r4))∧Z0 (kq≤k)∧Z0 (Kd.S k112 112 w' w.heap.size (fun _=>True) v3 x3_1)∧Z0 (w'.heap[gb418]?=some (.cells #[.int .i64 a0_0,.int .i64 a0_1,.int .i64 a0_2,(.slice A0_3 l0_3.length c0_3)] 40 (0,0)))∧Z0 (w'.heap[gb419]?=some (.cells #[.int .i64 0,.int .i64 0,.int .i64 0,(.slice none 0 0)] 40 (0,0)))∧Z0 (Below w.heap.size w w'))
 case atStart=>exact ⟨(([]:List (S112))),(0),zq12,H',⟨Nat.le_refl _⟩,⟨by first|exact Kd.S_nil _ _ _ _ _|exact Kd.N_nil _ _ _ _ _|exact Kd.V_nil _ _ _ _ _|exact Kd.Q_nil _ _ _ _ _|exact Kd.R_nil _ _ _ _ _⟩,⟨by (with_reducible repeat (first|refine zm ?_ _|refine zu ?_|refine zl ?_ _));exact BK418.out⟩,⟨by (with_reducible repeat (first|refine zm ?_ _|refine zu ?_|refine zl ?_ _));exact BK419.out⟩,⟨by repeat (first|(with_reducible first|exact HB.out|apply zf|apply zg|apply zj|refine zx ?_ GE418.out|refine zx ?_ GE419.out)|exact HB.out)⟩⟩
 case round=>
  clear H'
  try clear hcz5_0
  try clear hcz5_1
  try clear hcz5_2
  try clear hcz5_3
  try clear hfz5_0
  try clear hfz5_1
  try clear hfz5_2
  try clear hfz5_3
  obtain ⟨x3_1,x9_1,rfl,HA,HK1,HO_3,BK418,BK419,HB⟩:=hrel
  cases gk with
  |zero=>exact absurd HA.out (by simp [impl_cloneMeta.l0])
  |succ k1=>
   have H:=HA.out
   clear HA
   simp only [impl_cloneMeta.l0] at H
   by_cases c6:x9_1<(l0_3.length:Int)
   ·rw [if_pos c6] at H
    have c6b0:decide (x9_1<(l0_3.length:Int))=true:=decide_eq_true c6
    clear c6
    by_cases c7:0≤x9_1
    ·rw [if_pos c7] at H
     have c7b0:decide (0≤x9_1)=true:=decide_eq_true c7
     clear c7
     by_cases c8:x9_1<(l0_3.length:Int)
     ·rw [if_pos c8] at H
      have c8b0:decide (x9_1<(l0_3.length:Int))=true:=decide_eq_true c8
      clear c8
      replace H:=Option.bind_eq_some_iff.mp H
      obtain ⟨t422,A90,H⟩:=H
      replace H:(if x3_1.length<4398046511104 then (impl_cloneMeta.l0 k1 (x3_1++[(⟨(zH l0_3 x9_1).f0,t422⟩:S112)]) l0_3 (l0_3.length:Int) (wrap64 (x9_1+1)) a0_0 a0_1 a0_2 l0_3) else (none))=some (r1,r2,r3,r4):=H
      have A9:=zz A90
      clear A90
      by_cases c10:x3_1.length<4398046511104
      ·rw [if_pos c10] at H
       have LMc10:=zz c10
       clear c10
       obtain ⟨y425,hy425⟩:∃y_:List (S112),y_=(x3_1++[(⟨(zH l0_3 x9_1).f0,t422⟩:S112)]):=⟨_,rfl⟩
       replace H:(impl_cloneMeta.l0 k1 y425 l0_3 (l0_3.length:Int) (wrap64 (x9_1+1)) a0_0 a0_1 a0_2 l0_3)=some (r1,r2,r3,r4):=by first|(rw [hy425];with_reducible exact H)|(have H2_:=(Option.bind_some _ _).symm.trans H;rw [hy425];with_reducible exact H2_)|(have H2_:=(Option.bind_some _ _).symm.trans H;with_reducible exact H2_)|with_reducible exact H|(rw [hy425];exact H)|exact H
       have Ny425:=zz hy425
       clear hy425
       have H':=zz H
       clear H
       have p420:0≤(x9_1:Int):=of_decide_eq_true zq13
       have q420:x9_1<(l0_3.length:Int):=of_decide_eq_true zq13
       obtain ⟨ad420,A420_1,c420_1,e420,hx420_0,hx420_1,hl420_1,hi420_1⟩:=zbb HR0_3.out x9_1 p420 q420
       cases e420
       replace hx420_0:=(HB.out.cell (World.block_lt_of_cell? w _ hx420_0)).trans hx420_0
       replace hx420_1:=(HB.out.cell (World.block_lt_of_cell? w _ hx420_1)).trans hx420_1
       have HR420_1:=zz hi420_1
       have HC420_1:=zz hl420_1
       clear hi420_1 hl420_1
       replace p420:=eq_true p420
       replace q420:=eq_true q420
       try go_wp2_with (first|((with_reducible refine zn (N:=5) rfl ?_);refine zF ?hg (N:=5) ?hd (cs:= #[.int .i64 0,.slice none 0 0]) (t:=112) ?hr ?_;(case hd=>rfl);(case hg=>rfl);(case hr=>first|(go_simp;done)|(go_simp;rfl));intro gb421 hg w11 hbox hb;have n0_:=zz (Kd.S_below (Kd.S_elderB (zq42 HO_3.out) gb421 (Nat.le_of_eq hg.symm)) hb);have n1_:=zz (zo (g:=gb418) (o:= .cells #[.int .i64 a0_0,.int .i64 a0_1,.int .i64 a0_2,.slice (some ad420) l0_3.length c0_3] 40 (0,0)) (zq0 BK418.out) hb);have n2_:=zz (zo (g:=gb419) (o:= .cells #[.int .i64 0,.int .i64 0,.int .i64 0,.slice none 0 0] 40 (0,0)) (zq0 BK419.out) hb);have n3_:=zz (zh (zq2 GE418.out GE419.out) hb);have n4_:=zz (hbox);have n5_:=zz ((by rw [hg];exact (zi (zq2 GE418.out GE419.out)):w.heap.size≤gb421));have n6_:=zz ((by rw [hg];exact (zi (zq2 GE418.out GE419.out)):w.heap.size≤gb421));have n7_:=zz ((by rw [hg];exact Nat.ne_of_lt (zI (g:=gb418) (o:= .cells #[.int .i64 a0_0,.int .i64 a0_1,.int .i64 a0_2,.slice (some ad420) l0_3.length c0_3] 40 (0,0)) (zq0 BK418.out)):gb418≠gb421));have n8_:=zz ((by rw [hg];exact Nat.ne_of_gt (zI (g:=gb418) (o:= .cells #[.int .i64 a0_0,.int .i64 a0_1,.int .i64 a0_2,.slice (some ad420) l0_3.length c0_3] 40 (0,0)) (zq0 BK418.out)):gb421≠gb418));have n9_:=zz ((by rw [hg];exact Nat.ne_of_lt (zI (g:=gb419) (o:= .cells #[.int .i64 0,.int .i64 0,.int .i64 0,.slice none 0 0] 40 (0,0)) (zq0 BK419.out)):gb419≠gb421));have n10_:=zz ((by rw [hg];exact Nat.ne_of_gt (zI (g:=gb419) (o:= .cells #[.int .i64 0,.int .i64 0,.int .i64 0,.slice none 0 0] 40 (0,0)) (zq0 BK419.out)):gb421≠gb419));clear HO_3;clear BK418;clear BK419;clear HB;have HO_3:=n0_;have BK418:=n1_;have BK419:=n2_;have HB:=n3_;have BK421:=n4_;have GW421:=n5_;have GE421:=n6_;have NB418_421:=n7_;have NB421_418:=n8_;have NB419_421:=n9_;have NB421_419:=n10_;clear n0_ n1_ n2_ n3_ n4_ n5_ n6_ n7_ n8_ n9_ n10_;clear hb hbox hg;have hnb12:=NB421_418.out;have hnc12:=NB418_421.out;have hnb13:=NB421_419.out;have hnc13:=NB419_421.out;have hcz14_0:w11.cell? ⟨gb421,0,none⟩=some (.int .i64 0):=(zd BK421.out 0).trans rfl;have hcz14_1:w11.cell? ⟨gb421,1,none⟩=some (.slice none 0 0):=(zd BK421.out 1).trans rfl;have hfz14_0:=ze BK421.out 0;have hfz14_1:=ze BK421.out 1))
       have n0_:Z0 (Kd.S k112 112 ((w11.setCell ⟨gb421,0,none⟩ (.int .i64 ((zH l0_3 x9_1).f0))).setCell ⟨gb421,1,none⟩ (.slice A420_1 ((zH l0_3 x9_1).f1).length c420_1)) w.heap.size (fun k_=>k_≠gb421) u3 x3_1):=⟨by (with_reducible repeat (first|apply Kd.S_alloc|apply Kd.S_drewN|apply Kd.S_drew));exact Kd.S_mono (Kd.S_far (p:=⟨gb421,1,none⟩) (Kd.S_far (p:=⟨gb421,0,none⟩) (Kd.S_mono HO_3.out (fun k_ hk=>(⟨hk,hk.2⟩:_∧k_≠gb421))) (fun _ hk=>hk.2) (.int .i64 ((zH l0_3 x9_1).f0))) (fun _ hk=>hk.2) (.slice A420_1 ((zH l0_3 x9_1).f1).length c420_1)) (fun _ hk=>hk.1.2)⟩
       have n1_:Z0 (((w11.setCell ⟨gb421,0,none⟩ (.int .i64 ((zH l0_3 x9_1).f0))).setCell ⟨gb421,1,none⟩ (.slice A420_1 ((zH l0_3 x9_1).f1).length c420_1)).heap[gb418]?=some (.cells #[.int .i64 a0_0,.int .i64 a0_1,.int .i64 a0_2,.slice (some ad420) l0_3.length c0_3] 40 (0,0))):=⟨by (with_reducible repeat (first|refine zm ?_ _|refine zu ?_|refine zl ?_ _));refine zQ ?_ NB418_421.out _;(with_reducible repeat (first|refine zm ?_ _|refine zu ?_|refine zl ?_ _));refine zQ ?_ NB418_421.out _;(with_reducible repeat (first|refine zm ?_ _|refine zu ?_|refine zl ?_ _));exact BK418.out⟩
       have n2_:Z0 (((w11.setCell ⟨gb421,0,none⟩ (.int .i64 ((zH l0_3 x9_1).f0))).setCell ⟨gb421,1,none⟩ (.slice A420_1 ((zH l0_3 x9_1).f1).length c420_1)).heap[gb419]?=some (.cells #[.int .i64 0,.int .i64 0,.int .i64 0,.slice none 0 0] 40 (0,0))):=⟨by (with_reducible repeat (first|refine zm ?_ _|refine zu ?_|refine zl ?_ _));refine zQ ?_ NB419_421.out _;(with_reducible repeat (first|refine zm ?_ _|refine zu ?_|refine zl ?_ _));refine zQ ?_ NB419_421.out _;(with_reducible repeat (first|refine zm ?_ _|refine zu ?_|refine zl ?_ _));exact BK419.out⟩
       have n3_:Z0 (((w11.setCell ⟨gb421,0,none⟩ (.int .i64 ((zH l0_3 x9_1).f0))).setCell ⟨gb421,1,none⟩ (.slice A420_1 ((zH l0_3 x9_1).f1).length c420_1)).heap[gb421]?=some (.cells #[.int .i64 ((zH l0_3 x9_1).f0),.slice A420_1 ((zH l0_3 x9_1).f1).length c420_1] 112 (0,0))):=⟨by (with_reducible repeat (first|refine zm ?_ _|refine zu ?_|refine zl ?_ _));refine zT (cs:= #[.int .i64 ((zH l0_3 x9_1).f0),.slice none 0 0]) ?_ 1 _ rfl;(with_reducible repeat (first|refine zm ?_ _|refine zu ?_|refine zl ?_ _));refine zT (cs:= #[.int .i64 0,.slice none 0 0]) ?_ 0 _ rfl;(with_reducible repeat (first|refine zm ?_ _|refine zu ?_|refine zl ?_ _));exact BK421.out⟩
       have n4_:Z0 (Below w.heap.size w ((w11.setCell ⟨gb421,0,none⟩ (.int .i64 ((zH l0_3 x9_1).f0))).setCell ⟨gb421,1,none⟩ (.slice A420_1 ((zH l0_3 x9_1).f1).length c420_1))):=⟨by repeat (first|(with_reducible first|exact HB.out|apply zf|apply zg|apply zj|refine zx ?_ GE418.out|refine zx ?_ GE419.out|refine zx ?_ GE421.out)|exact HB.out)⟩
       (try clear HO_3)
       (try clear BK418)
       (try clear BK419)
       (try clear BK421)
       (try clear HB)
       generalize ((w11.setCell ⟨gb421,0,none⟩ (.int .i64 ((zH l0_3 x9_1).f0))).setCell ⟨gb421,1,none⟩ (.slice A420_1 ((zH l0_3 x9_1).f1).length c420_1))=w15 at n0_ n1_ n2_ n3_ n4_ ⊢
       have HO_3:=n0_
       have BK418:=n1_
       have BK419:=n2_
       have BK421:=n3_
       have HB:=n4_
       clear n0_ n1_ n2_ n3_ n4_
       have n0_:=zz (Kd.S_drew HO_3.out)
       have n1_:=zz (zu BK418.out)
       have n2_:=zz (zu BK419.out)
       have n3_:=zz (zu BK421.out)
       have n4_:=zz (zj HB.out)
       clear HO_3
       clear BK418
       clear BK419
       clear BK421
       clear HB
       have HO_3:=n0_
       have BK418:=n1_
       have BK419:=n2_
       have BK421:=n3_
       have HB:=n4_
       clear n0_ n1_ n2_ n3_ n4_
       refine start_ (n:=10) (S:=fun w'=>w'.cell? ⟨gb421,0,none⟩=some (.int .i64 ((zH l0_3 x9_1).f0))∧w'.cell? ⟨gb421,1,none⟩=some (.slice A420_1 ((zH l0_3 x9_1).f1).length c420_1)) (ds:=[]) #[false,false,false,false,false,false,false,false,false,false] zq7 rfl rfl ⟨(zd BK421.out 0).trans rfl,(zd BK421.out 1).trans rfl⟩ (fun hHeld=> ?_);refine zXa impl_cloneMeta.tab5 impl_cloneMeta.bits5 (fun HT_ HW_=> ?_)
       generalize w15.drew=w16 at HO_3 BK418 BK419 BK421 HB hHeld ⊢
       refine zea (i:=0) (N:=some 13) (v:= ?_) (a':= ?_) #[true,false,false,false,false,false,false,false,false,false] rfl rfl (zU HT_.out zq7) (fun _ _ _ h=>h) (Or.inl ⟨by rfl,?_⟩) ?_ ?_
       rotate_left
       ·intro w'
        go_simp
        with_reducible rfl
       rotate_left
       ·simp only [Act.put,List.setIfInBounds_toArray,List.set_cons_zero,List.set_cons_succ,zr,zD]
        rfl
       refine zea (i:=1) (N:=some 14) (v:= ?_) (a':= ?_) #[true,true,false,false,false,false,false,false,false,false] rfl rfl (zU HT_.out zq7) (fun _ _ _ h=>h) (Or.inl ⟨by rfl,?_⟩) ?_ ?_
       rotate_left
       ·intro w'
        go_simp
        with_reducible rfl
       rotate_left
       ·simp only [Act.put,List.setIfInBounds_toArray,List.set_cons_zero,List.set_cons_succ,zr,zD]
        rfl
       refine zea (i:=3) (N:=some 16) (v:= ?_) (a':= ?_) #[true,true,false,true,false,false,false,false,false,false] rfl rfl (zU HT_.out zq7) (fun _ _ _ h=>h) (Or.inl ⟨by rfl,?_⟩) ?_ ?_
       rotate_left
       ·intro w'
        go_simp
        with_reducible rfl
       rotate_left
       ·simp only [Act.put,List.setIfInBounds_toArray,List.set_cons_zero,List.set_cons_succ,zr,zD]
        rfl
       refine take_ (i:=2) (N:=some 15) (v:= ?_) (a':= ?_) #[true,true,true,true,false,false,false,false,false,false] rfl rfl (zfa HT_.out HW_.out zq7) (fun _ _ _ h=>h) (Or.inl ⟨by rfl,?_⟩) hHeld ?_ ?_
       rotate_left
       ·rintro w' ⟨s0,s1⟩
        go_simp
        with_reducible rfl
       rotate_left
       ·simp only [Act.put,List.setIfInBounds_toArray,List.set_cons_zero,List.set_cons_succ,zr,zD]
        rfl
       refine take_ (i:=4) (N:=some 17) (v:= ?_) (a':= ?_) #[true,true,true,true,true,false,false,false,false,false] rfl rfl (zfa HT_.out HW_.out zq7) (fun _ _ _ h=>h) (Or.inl ⟨by rfl,?_⟩) hHeld ?_ ?_
       rotate_left
       ·rintro w' ⟨s0,s1⟩
        go_simp
        with_reducible rfl
       rotate_left
       ·simp only [Act.put,List.setIfInBounds_toArray,List.set_cons_zero,List.set_cons_succ,zr,zD]
        rfl
       refine one_ (i:=5) (N:=some 18) #[true,true,true,true,true,true,false,false,false,false] rfl rfl (zJa HT_.out zq7) zq14 (fun K hK=> ?_)
       refine goes_ Tryz.func87 zq7 rfl #[.slice A420_1 ((zH l0_3 x9_1).f1).length c420_1] zq15 rfl rfl zq4 ?_
       with_reducible refine (slices_Clone_int_int.calls _ _ ((zH l0_3 x9_1).f1) t422 _ ?side1 ?side2 A9.out).mono ?_
       (case side1=>repeat (first|exact (Kd.C_below HR420_1.out HB.out)|(with_reducible refine Kd.C_alloc ?_ _)|(with_reducible refine Kd.C_drewN ?_ _)|(with_reducible refine Kd.C_drew ?_)))
       (case side2=>exact HC420_1.out)
       rintro e w17 ⟨v423,rfl,ho0,hb⟩
       refine ⟨_,rfl,?_⟩
       have n0_:=zz (Kd.S_elder' (zq42 HO_3.out) (Kd.R_base ho0) hb)
       have n1_:=zz (Kd.R_lower ho0 (zi (zq9 GE418.out GE419.out GE421.out)))
       have n2_:=zz (zo (g:=gb418) (o:= .cells #[.int .i64 a0_0,.int .i64 a0_1,.int .i64 a0_2,.slice (some ad420) l0_3.length c0_3] 40 (0,0)) (zq0 BK418.out) hb)
       have n3_:=zz (zo (g:=gb419) (o:= .cells #[.int .i64 0,.int .i64 0,.int .i64 0,.slice none 0 0] 40 (0,0)) (zq0 BK419.out) hb)
       have n4_:=zz (zo (g:=gb421) (o:= .cells #[.int .i64 ((zH l0_3 x9_1).f0),.slice A420_1 ((zH l0_3 x9_1).f1).length c420_1] 112 (0,0)) (zq0 BK421.out) hb)
       have n5_:=zz (zh (zq9 GE418.out GE419.out GE421.out) hb)
       clear HO_3
       clear BK418
       clear BK419
       clear BK421
       clear HB
       have HO_3:=n0_
       have HO424:=n1_
       have BK418:=n2_
       have BK419:=n3_
       have BK421:=n4_
       have HB:=n5_
       clear n0_ n1_ n2_ n3_ n4_ n5_
       (try clear hb)
       (try clear hb2)
       (try clear hk)
       (try clear hi)
       (try clear ho0)
       obtain ⟨Ao18,co18,eo18⟩:=Kd.R_slice HO424.out
       (first|subst eo18|(injection eo18 with f1_ f2_ f3_;have f4_:=f1_.symm;have f5_:=f3_.symm;clear f1_ f2_ f3_;subst f4_;subst f5_))
       refine hK.out _ _ ⟨(zd BK421.out 0).trans rfl,(zd BK421.out 1).trans rfl⟩ (fun hHeld=> ?_)
       clear hK K
       refine zdb (a':= ?_) ?_ ?_
       rotate_left
       ·show Act.put _ (some 18) _=_
        simp only [Act.put,List.setIfInBounds_toArray,List.set_cons_zero,List.set_cons_succ,zr,zD]
        rfl
       refine zea (i:=6) (N:=some 19) (v:= ?_) (a':= ?_) #[true,true,true,true,true,true,true,false,false,false] rfl rfl (zU HT_.out zq7) (fun _ _ _ h=>h) (Or.inl ⟨by rfl,?_⟩) ?_ ?_
       rotate_left
       ·intro w'
        go_simp
        with_reducible rfl
       rotate_left
       ·simp only [Act.put,List.setIfInBounds_toArray,List.set_cons_zero,List.set_cons_succ,zr,zD]
        rfl
       refine one_ (i:=7) (N:=some 20) #[true,true,true,true,true,true,true,true,false,false] rfl rfl (zJa HT_.out zq7) zq14 (fun K hK=> ?_)
       refine value_ (w1:= ?_) (v:= ?_) zq15 rfl ?_ ?_
       rotate_left 2
       ·go_simp
        constructor
        ·rfl
        ·rfl
       refine hK.out _ _ ⟨(zd (zl BK421.out _) 0).trans rfl,(zd (zl BK421.out _) 1).trans rfl⟩ (fun hHeld=> ?_)
       clear hK K
       refine zdb (a':= ?_) ?_ ?_
       rotate_left
       ·show Act.put _ (some 20) _=_
        simp only [Act.put,List.setIfInBounds_toArray,List.set_cons_zero,List.set_cons_succ,zr,zD]
        rfl
       refine one_ (i:=8) (N:=some 21) #[true,true,true,true,true,true,true,true,true,false] rfl rfl (zJa HT_.out zq7) zq14 (fun K hK=> ?_)
       refine Kd.S_append_step k112 (w0:=w) w.heap.size zq15 (.tmp 13) (.tmp 20) 38 112 (.agg #[(.int .i64 0),(.slice none 0 0)]) 32 rfl Tryz.underlying38 info112 rfl zq14 zq5 u3 x3_1 (⟨(zH l0_3 x9_1).f0,t422⟩:S112) [.int .i64 ((zH l0_3 x9_1).f0),.slice Ao18 t422.length co18] (fun k_=>k_≠gb421) (fun k_=>some k_=(.slice Ao18 t422.length co18:Value).ownBlock) rfl rfl ?aP (fun k_ hk_=>((Kd.R_mono (ok':=fun k_=>((fun k_=>k_≠gb421)) k_∧some k_≠(u3:Value).ownBlock) (Kd.R_types (Kd.R_apart' (HO424.out) (Kd.S_typed HO_3.out) zq14) BK421.out zq14) (fun k_ hk=>⟨hk.2,hk.1.2⟩))).1 k_ hk_.symm) ?aF ?aO ?aB ?aS ?aL ?_
       (case aP=>exact zgb _ _ _ (⟨(zH l0_3 x9_1).f0,t422⟩:S112) (Kd.R_mono (Kd.R_tight rfl (Kd.R_mono (ok':=fun k_=>((fun k_=>k_≠gb421)) k_∧some k_≠(u3:Value).ownBlock) (Kd.R_types (Kd.R_apart' (HO424.out) (Kd.S_typed HO_3.out) zq14) BK421.out zq14) (fun k_ hk=>⟨hk.2,hk.1.2⟩))) (fun _ h_=>h_)))
       (case aB=>exact (zq9 GE418.out GE419.out GE421.out))
       (case aF=>exact (fun k_ hk=>Kd.freshB (g:=gb421) (o:= .cells #[.int .i64 ((zH l0_3 x9_1).f0),.slice A420_1 ((zH l0_3 x9_1).f1).length c420_1] 112 (0,0)) (zq0 BK421.out) k_ hk))
       (case aO=>exact (by (with_reducible repeat (first|apply Kd.S_alloc|apply Kd.S_drewN|apply Kd.S_drew));exact Kd.S_mono HO_3.out (fun k_ hk=>⟨hk.1,fun e_=>hk.2 e_⟩)))
       (case aS=>exact (zi (zq9 GE418.out GE419.out GE421.out)))
       (case aL=>have:=LMc10.out;omega)
       intro v426 w19 ho hb hg hat
       rw [←Ny425.out] at ho
       have n0_:=zz (zO (g:=gb418) (o:= .cells #[.int .i64 a0_0,.int .i64 a0_1,.int .i64 a0_2,.slice (some ad420) l0_3.length c0_3] 40 (0,0)) (zq0 BK418.out) hg (Kd.S_ne HO_3.out BK418.out zq14))
       have n1_:=zz (zO (g:=gb419) (o:= .cells #[.int .i64 0,.int .i64 0,.int .i64 0,.slice none 0 0] 40 (0,0)) (zq0 BK419.out) hg (Kd.S_ne HO_3.out BK419.out zq14))
       have n2_:=zz (zO (g:=gb421) (o:= .cells #[.int .i64 ((zH l0_3 x9_1).f0),.slice A420_1 ((zH l0_3 x9_1).f1).length c420_1] 112 (0,0)) (zq0 BK421.out) hg (Kd.S_away HO_3.out (fun _ hk=>hk.1)))
       have n3_:=zz (hb)
       have n4_:=zz (ho)
       clear BK418
       clear BK419
       clear BK421
       clear HB
       clear HO_3
       clear HO424
       have BK418:=n0_
       have BK419:=n1_
       have BK421:=n2_
       have HB:=n3_
       have HO427:=n4_
       clear n0_ n1_ n2_ n3_ n4_
       clear ho hb hg hat
       refine hK.out _ _ ⟨(zd BK421.out 0).trans rfl,(zd BK421.out 1).trans rfl⟩ (fun hHeld=> ?_)
       clear hK K
       refine zdb (a':= ?_) ?_ ?_
       rotate_left
       ·show Act.put _ (some 21) _=_
        simp only [Act.put,List.setIfInBounds_toArray,List.set_cons_zero,List.set_cons_succ,zr,zD]
        rfl
       refine zea (i:=9) (N:=some 3) (v:= ?_) (a':= ?_) #[true,true,true,true,true,true,true,true,true,true] rfl rfl (zU HT_.out zq7) (fun _ _ _ h=>h) (Or.inl ⟨by rfl,?_⟩) ?_ ?_
       rotate_left
       ·intro w'
        go_simp
        with_reducible rfl
       rotate_left
       ·simp only [Act.put,List.setIfInBounds_toArray,List.set_cons_zero,List.set_cons_succ,zr,zD]
        rfl
       refine done_ (zIb HT_.out zq7) ?_
       try go_wp2
       go_roundg k1
       case measure=>have:=HK1.out;omega
       case rel=>exact ⟨(y425),(wrap64 (x9_1+1)),zq12,H',⟨by have:=HK1.out;omega⟩,⟨by (with_reducible repeat (first|apply Kd.S_alloc|apply Kd.S_drewN|apply Kd.S_drew));exact Kd.S_mono HO427.out (fun _ hk=>trivial)⟩,⟨by (with_reducible repeat (first|refine zm ?_ _|refine zu ?_|refine zl ?_ _));exact BK418.out⟩,⟨by (with_reducible repeat (first|refine zm ?_ _|refine zu ?_|refine zl ?_ _));exact BK419.out⟩,⟨by repeat (first|(with_reducible first|exact HB.out|apply zf|apply zg|apply zj|refine zx ?_ GE418.out|refine zx ?_ GE419.out|refine zx ?_ GE421.out)|exact HB.out)⟩⟩
      ·rw [if_neg c10] at H
       exact absurd H zq16
     ·rw [if_neg c8] at H
      exact absurd H zq16
    ·rw [if_neg c7] at H
     exact absurd H zq16
   ·rw [if_neg c6] at H
    have c6b0:decide (x9_1<(l0_3.length:Int))=false:=decide_eq_false c6
    clear c6
    simp only [Option.some.injEq,Prod.mk.injEq] at H
    obtain ⟨rfl,rfl,rfl,rfl⟩:=H
    obtain ⟨Ao20,co20,eo20⟩:=Kd.S_slice HO_3.out
    subst eo20
    have hnb21:=NB418_419.out
    have hnc21:=NB419_418.out
    have hcz22_0:wr.cell? ⟨gb418,0,none⟩=some (.int .i64 a0_0):=(zd BK418.out 0).trans rfl
    have hcz22_1:wr.cell? ⟨gb418,1,none⟩=some (.int .i64 a0_1):=(zd BK418.out 1).trans rfl
    have hcz22_2:wr.cell? ⟨gb418,2,none⟩=some (.int .i64 a0_2):=(zd BK418.out 2).trans rfl
    have hcz22_3:wr.cell? ⟨gb418,3,none⟩=some (.slice A0_3 l0_3.length c0_3):=(zd BK418.out 3).trans rfl
    have hfz22_0:=ze BK418.out 0
    have hfz22_1:=ze BK418.out 1
    have hfz22_2:=ze BK418.out 2
    have hfz22_3:=ze BK418.out 3
    have hcz23_0:wr.cell? ⟨gb419,0,none⟩=some (.int .i64 0):=(zd BK419.out 0).trans rfl
    have hcz23_1:wr.cell? ⟨gb419,1,none⟩=some (.int .i64 0):=(zd BK419.out 1).trans rfl
    have hcz23_2:wr.cell? ⟨gb419,2,none⟩=some (.int .i64 0):=(zd BK419.out 2).trans rfl
    have hcz23_3:wr.cell? ⟨gb419,3,none⟩=some (.slice none 0 0):=(zd BK419.out 3).trans rfl
    have hfz23_0:=ze BK419.out 0
    have hfz23_1:=ze BK419.out 1
    have hfz23_2:=ze BK419.out 2
    have hfz23_3:=ze BK419.out 3
    go_wp2
    refine bodyPost_ret (results_cell_row rfl _ _ gb419 40 #[.int .i64 a0_0,.int .i64 a0_1,.int .i64 a0_2,.slice Ao20 x3_1.length co20] (0,0) _ rfl (by (with_reducible repeat (first|refine zm ?_ _|refine zu ?_|refine zl ?_ _));refine zT (cs:= #[.int .i64 a0_0,.int .i64 a0_1,.int .i64 a0_2,.slice none 0 0]) ?_ 3 _ rfl;(with_reducible repeat (first|refine zm ?_ _|refine zu ?_|refine zl ?_ _));refine zT (cs:= #[.int .i64 a0_0,.int .i64 a0_1,.int .i64 0,.slice none 0 0]) ?_ 2 _ rfl;(with_reducible repeat (first|refine zm ?_ _|refine zu ?_|refine zl ?_ _));refine zT (cs:= #[.int .i64 a0_0,.int .i64 0,.int .i64 0,.slice none 0 0]) ?_ 1 _ rfl;(with_reducible repeat (first|refine zm ?_ _|refine zu ?_|refine zl ?_ _));refine zT (cs:= #[.int .i64 0,.int .i64 0,.int .i64 0,.slice none 0 0]) ?_ 0 _ rfl;(with_reducible repeat (first|refine zm ?_ _|refine zu ?_|refine zl ?_ _));refine zQ ?_ NB419_418.out _;(with_reducible repeat (first|refine zm ?_ _|refine zu ?_|refine zl ?_ _));exact BK419.out) Tryz.underlying40 rfl zq7) rfl ?_
    exact ⟨_,by first|rfl|(simp [zw,zv]<;>rfl)|(simp [*,zw,zv]<;>rfl),by (with_reducible repeat (first|apply Kd.S_alloc|apply Kd.S_drewN|apply Kd.S_drew));exact Kd.S_mono (Kd.S_far (p:=⟨gb419,3,none⟩) (Kd.S_far (p:=⟨gb419,2,none⟩) (Kd.S_far (p:=⟨gb419,1,none⟩) (Kd.S_far (p:=⟨gb419,0,none⟩) (Kd.S_far (p:=⟨gb418,3,none⟩) (Kd.S_types (Kd.S_types HO_3.out BK418.out zq14) BK419.out zq14) (fun _ hk=>hk.1.2) (.slice Ao20 x3_1.length co20)) (fun _ hk=>hk.2) (.int .i64 a0_0)) (fun _ hk=>hk.2) (.int .i64 a0_1)) (fun _ hk=>hk.2) (.int .i64 a0_2)) (fun _ hk=>hk.2) (.slice Ao20 x3_1.length co20)) (fun _ hk=>trivial),by repeat (first|(with_reducible first|exact HB.out|apply zf|apply zg|apply zj|refine zx ?_ GE418.out|refine zx ?_ GE419.out)|exact HB.out)⟩
theorem cloneMeta_o (k:Nat) (x y:S40) {cs:List Value} (w:World) (h:k40.K w x cs) (hf:impl_cloneMeta.f k x.f0 x.f1 x.f2 x.f3=some (y.f0,y.f1,y.f2,y.f3)):
  Calls Tryz.prog 44 #[.agg cs.toArray] w fun e w'=>∃ds:List Value,e= .returned (.agg ds.toArray)∧k40.M w' w.heap.size (Fr w w') y ds∧Below w.heap.size w w':=by
 obtain ⟨A3,c3,rfl,m3,r3⟩:=zEa h
 refine (impl_cloneMeta.calls k x.f0 x.f1 x.f2 A3 c3 x.f3 y.f0 y.f1 y.f2 y.f3 w r3 m3 hf).mono ?_
 rintro e w' ⟨v3,rfl,R,hb⟩
 exact ⟨[.int .i64 y.f0,.int .i64 y.f1,.int .i64 y.f2,v3],rfl,zcb _ _ _ y (Kd.S_mono (Kd.S_bound R) (fun k hk=>⟨hk.2.1,hk.2.2.1⟩)),hb⟩
def SmallM (x:S40):Prop:=x.f3.length≤2000000∧∀f∈x.f3,f.f1.length≤2000000
theorem R_made0 {α:Type} (d:Kd α) (e base:Nat) (w:World) (ok:Nat→Prop) (hb:base≤w.heap.size) (hok:ok w.heap.size):Kd.R d e (w.alloc (.cells #[] e)) base ok (.slice (some ⟨w.heap.size,0,none⟩) 0 0) []:=
 ⟨fun k hk=>by simp [Value.ownBlock] at hk;rw [←hk];exact hok,[],World.ownsRow_made w #[] 0 hb zq14 zq16,Reps.none _ _⟩
theorem S_madeL {α:Type} (d:Kd α) (e base:Nat) (w:World) (ok:Nat→Prop) (hb:base≤w.heap.size) (hok:ok w.heap.size):Kd.S d e (w.alloc (.cells #[] e)) base ok (.slice (some ⟨w.heap.size,0,none⟩) 0 0) []:=⟨fun _=>0,R_made0 _ e base w ok hb hok⟩
def l06Copy.T6:Bool×List (List Nat×List Nat):=(true,[([],[]),([0],[0]),([],[]),([2],[2]),([],[]),([3,4],[3,4]),([5],[5]),([6],[6]),([],[]),([],[]),([9],[9]),([],[]),([10,11],[10,11]),([12],[12]),([13],[13]),([8,14],[8,14]),([7,15],[7,15]),([16],[16]),([1,17,15],[1,17]),([0,1,2,3,4,5,6,7,8,9,10,11,12,13,14,15,16,17,18],[]),([19,18,18,0,1,2,3,4,5,6,7,8,9,10,11,12,13,14,15,16,17,18],[18,19])])
def l06Copy.B6:List Nat:=[0,1,0,4,0,28,60,124,0,0,512,0,3584,7680,15872,32512,65532,131068,262143,524287,1048575]
theorem l06Copy.ok6_1:regB (zQa Tryz.f34 6) l06Copy.T6 l06Copy.B6 [20] [.p 0,.t 1,.p 2,.t 3,.p 4,.p 5,.p 6,.t 7,.p 9,.t 10,.p 11,.p 12,.p 13,.t 14,.e 8,.e 15,.p 16,.e 17,.e 18,.p 19,.l 20]=true:=by kernel_rfl
theorem zCb (x y:S40) {cs:List Value} (w:World) (h:k40.K w x cs) (hf:y=x∧SmallM x):
  Calls Tryz.prog 34 #[.agg cs.toArray] w fun e w'=>∃ds:List Value,e= .returned (.agg ds.toArray)∧k40.M w' w.heap.size (Fr w w') y ds∧Below w.heap.size w w':=by
 obtain ⟨hyx,hx⟩:=hf
 have hxy:=hyx.symm
 clear hyx
 subst hxy
 obtain ⟨AF,cF,rfl,mF,rF⟩:=zEa h
 have KR:=zz rF
 have FL:=zz hx
 clear h mF rF hx
 have BA:=zz (show (((w.alloc (.cells [.int .i64 x.f0,.int .i64 x.f1,.int .i64 x.f2,.slice AF x.f3.length cF].toArray 40)).alloc (.cells [.int .i64 0,.int .i64 0,.int .i64 0,.slice none 0 0].toArray 40))).heap[w.heap.size]?=some (.cells ([.int .i64 x.f0,.int .i64 x.f1,.int .i64 x.f2,.slice AF x.f3.length cF]:List Value).toArray 40 (0,0)) from zl (zia w (.cells [.int .i64 x.f0,.int .i64 x.f1,.int .i64 x.f2,.slice AF x.f3.length cF].toArray 40)) _)
 have BR:=zz (show (((w.alloc (.cells [.int .i64 x.f0,.int .i64 x.f1,.int .i64 x.f2,.slice AF x.f3.length cF].toArray 40)).alloc (.cells [.int .i64 0,.int .i64 0,.int .i64 0,.slice none 0 0].toArray 40))).heap[w.heap.size+1]?=some (.cells ([.int .i64 0,.int .i64 0,.int .i64 0,.slice none 0 0]:List Value).toArray 40 (0,0)) from (by have:=zia (w.alloc (.cells [.int .i64 x.f0,.int .i64 x.f1,.int .i64 x.f2,.slice AF x.f3.length cF].toArray 40)) (.cells ([.int .i64 0,.int .i64 0,.int .i64 0,.slice none 0 0]:List Value).toArray 40);rwa [show ((w.alloc (.cells [.int .i64 x.f0,.int .i64 x.f1,.int .i64 x.f2,.slice AF x.f3.length cF].toArray 40))).heap.size=w.heap.size+1 from by simp] at this))
 have HB:=zz (zf (zf (Below.refl w.heap.size w) (.cells [.int .i64 x.f0,.int .i64 x.f1,.int .i64 x.f2,.slice AF x.f3.length cF].toArray 40)) (.cells [.int .i64 0,.int .i64 0,.int .i64 0,.slice none 0 0].toArray 40))
 have HZ:=zz (show (((w.alloc (.cells [.int .i64 x.f0,.int .i64 x.f1,.int .i64 x.f2,.slice AF x.f3.length cF].toArray 40)).alloc (.cells [.int .i64 0,.int .i64 0,.int .i64 0,.slice none 0 0].toArray 40))).heap.size=w.heap.size+1+1 from by simp)
 have BN:=zz (show (((w.alloc (.cells [.int .i64 x.f0,.int .i64 x.f1,.int .i64 x.f2,.slice AF x.f3.length cF].toArray 40)).alloc (.cells [.int .i64 0,.int .i64 0,.int .i64 0,.slice none 0 0].toArray 40)).alloc (.cells [.int .i64 0,.int .i64 0,.int .i64 0,.slice none 0 0].toArray 40)).heap[w.heap.size+1+1]?=some (.cells ([.int .i64 0,.int .i64 0,.int .i64 0,.slice none 0 0]:List Value).toArray 40 (0,0)) from (by have:=zia ((w.alloc (.cells [.int .i64 x.f0,.int .i64 x.f1,.int .i64 x.f2,.slice AF x.f3.length cF].toArray 40)).alloc (.cells [.int .i64 0,.int .i64 0,.int .i64 0,.slice none 0 0].toArray 40)) (.cells ([.int .i64 0,.int .i64 0,.int .i64 0,.slice none 0 0]:List Value).toArray 40);rwa [HZ.out] at this))
 go_enter Tryz.func34,Tryz.ntmps34
 go_upto_region 2 with (first|((with_reducible refine zn (N:=5) rfl ?_);refine zA rfl 40 _ rfl w.heap.size 0 [] [.int .i64 x.f0,.int .i64 x.f1,.int .i64 x.f2,.slice AF x.f3.length cF] [] _ rfl BA.out rfl rfl Tryz.underlying40 rfl zq7 ?_)|((with_reducible refine zE (t:=40) (p:=3) rfl ?_);refine zK rfl 40 _ _ rfl rfl (w.heap.size+1+1) 0 [.int .i64 x.f0,.int .i64 x.f1,.int .i64 x.f2,.slice AF x.f3.length cF] [] [.int .i64 0,.int .i64 0,.int .i64 0,.slice none 0 0] [] rfl rfl BN.out rfl rfl rfl zq7 (fun v hv=>by simp only [List.mem_cons,List.not_mem_nil,or_false] at hv;rcases hv with rfl|rfl|rfl|rfl<;>rfl) ?_;intro W1 hp hn;have BO:=zz hn;have P1:=zz hp;clear hp hn))
 have hb1:=P1.out.below ((w.alloc (.cells [.int .i64 x.f0,.int .i64 x.f1,.int .i64 x.f2,.slice AF x.f3.length cF].toArray 40)).alloc (.cells [.int .i64 0,.int .i64 0,.int .i64 0,.slice none 0 0].toArray 40)) (Nat.le_of_eq HZ.out) (zf (Below.refl _ _) _)
 replace BA:=zz (zo BA.out hb1)
 replace BR:=zz (zo BR.out hb1)
 replace HB:=zz (zh HB.out hb1)
 have HZ1:=zz (show w.heap.size+1+1<W1.heap.size from zI BO.out)
 clear hb1 P1 HZ BN
 go_wp2_with ((with_reducible refine zE (t:=38) (p:=7) rfl ?_);refine zha rfl 38 _ _ rfl rfl (w.heap.size+1+1) 3 (.slice (some ⟨W1.heap.size,0,none⟩) 0 0) (.slice AF x.f3.length cF) [.int .i64 x.f0,.int .i64 x.f1,.int .i64 x.f2] [] rfl rfl (zl BO.out _) rfl rfl zq7 rfl rfl ?_;intro W2 hp hn;have BO2:=zz hn;have HO:=zz (putS (S_madeL k112 112 w.heap.size W1 (fun k=>w.heap.size+1+1<k) (by have:=HZ1.out;omega) HZ1.out) hp (fun k h e=>by omega));have BA2:=zz (zfb (zl BA.out _) hp zq5);have BR2:=zz (zfb (zl BR.out _) hp zq5);have HB2:=zz (hp.below w zq5 (zf HB.out _));have HZ2:=zz (show w.heap.size+1+1<W2.heap.size from zI hn);clear BA BR HB BO hp hn)
 go_loopg [4] (x.f3.length+1) (fun kq v4 w'=>∃(i:Nat) (v:Value),v4= .int .i64 (i:Int)∧Z0 (kq+i=x.f3.length+1)∧Z0 (i≤x.f3.length)∧Z0 (Kd.S k112 112 w' w.heap.size (fun k=>w.heap.size+1+1<k) v (x.f3.take i))∧Z0 (w'.heap[w.heap.size]?=some (.cells ([.int .i64 x.f0,.int .i64 x.f1,.int .i64 x.f2,.slice AF x.f3.length cF]:List Value).toArray 40 (0,0)))∧Z0 (w'.heap[w.heap.size+1]?=some (.cells ([.int .i64 0,.int .i64 0,.int .i64 0,.slice none 0 0]:List Value).toArray 40 (0,0)))∧Z0 (w'.heap[w.heap.size+1+1]?=some (.cells (([.int .i64 x.f0,.int .i64 x.f1,.int .i64 x.f2]:List Value)++([v]++[])).toArray 40 (0,0)))∧Z0 (Below w.heap.size w w')∧Z0 (w.heap.size+1+1<w'.heap.size))
 case atStart=>exact ⟨0,_,rfl,⟨by omega⟩,⟨Nat.zero_le _⟩,HO,BA2,BR2,BO2,HB2,HZ2⟩
 case round=>
  clear BA2 BR2 BO2 HB2 HZ2 HO
  obtain ⟨i,v,rfl,HQ,HI,HO,BA,BR,BO,HB,HZ⟩:=hrel
  obtain ⟨xs,hxs⟩:∃xs,xs=x.f3.take i:=⟨_,rfl⟩
  rw [←hxs] at HO
  have HX:=zz hxs
  clear hxs
  obtain ⟨Av,cv,rfl⟩:=Kd.S_slice HO.out
  have hp3:wr.cell? ⟨w.heap.size,3,none⟩=some (.slice AF x.f3.length cF):=part_cell (pre:=[.int .i64 x.f0,.int .i64 x.f1,.int .i64 x.f2]) (post:=[]) BA.out rfl rfl
  by_cases hlt:i<x.f3.length
  ·have c1:decide ((i:Int)<(x.f3.length:Int))=true:=decide_eq_true zq5
   have c0:decide ((0:Int)≤(i:Int))=true:=decide_eq_true zq5
   cases gk with
   |zero=>exact absurd HQ.out zq5
   |succ k1=>
    obtain ⟨ad,A1,c1_,hA,z0,z1,hl4,hC4⟩:=zbb KR.out (i:Int) zq5 zq5
    subst hA
    obtain ⟨el,hel⟩:∃el,el=zH x.f3 (i:Int):=⟨_,rfl⟩
    have hel2:el=x.f3[i]:=by rw [hel];simp [zH,List.getD_eq_getElem?_getD,List.getElem?_eq_getElem hlt]
    rw [←hel] at z0 z1 hl4 hC4
    simp only [Int.toNat_natCast] at z0 z1
    have Z0:=zz z0
    have Z1:=zz z1
    have KE:=zz hC4
    have HE:=zz hel2
    have EL:=zz (show el.f1.length≤2000000 from FL.out.2 el (by rw [hel2];exact List.getElem_mem hlt))
    have c2:((i:Int)<(x.f3.length:Int))=True:=eq_true zq5
    have c3:((0:Int)≤(i:Int))=True:=eq_true zq5
    clear hel hel2 hl4 hC4 z0 z1
    have OKV:=zz (show ∀k,(Value.slice Av xs.length cv).ownBlock=some k→w.heap.size+1+1<k from HO.out.choose_spec.1)
    have LV:=zz (Kd.S_lt HO.out)
    go_upto_region 6 with (fail)
    clear hp3
    replace BA:=zz (zo BA.out (Below.refl wr.heap.size wr).drew)
    replace BR:=zz (zo BR.out (Below.refl wr.heap.size wr).drew)
    replace BO:=zz (zo BO.out (Below.refl wr.heap.size wr).drew)
    replace HB:=zz (zh HB.out (Below.refl wr.heap.size wr).drew)
    replace HO:=zz (Kd.S_below HO.out (Below.refl wr.heap.size wr).drew)
    replace HZ:=zz (Nat.lt_of_lt_of_le HZ.out (Below.refl wr.heap.size wr).drew.size)
    have LW:=zz (Below.refl wr.heap.size wr).drew.size
    refine zMa l06Copy.ok6_1 (S:=fun w'=>w'.heap[w.heap.size]?=some (.cells ([.int .i64 x.f0,.int .i64 x.f1,.int .i64 x.f2,.slice (some ad) x.f3.length cF]:List Value).toArray 40 (0,0))∧w'.heap[w.heap.size+1+1]?=some (.cells (([.int .i64 x.f0,.int .i64 x.f1,.int .i64 x.f2]:List Value)++(([.slice Av xs.length cv]:List Value)++[])).toArray 40 (0,0))∧w'.cell? (ad.add (i*2))=some (.int .i64 el.f0)∧w'.cell? ⟨(ad.add (i*2)).block,(ad.add (i*2)).off+1,none⟩=some (.slice A1 el.f1.length c1_)) zq7 (fun _ _ _ _ h=>h) ⟨BA.out,BO.out,((HB.out).cell (World.block_lt_of_cell? w _ Z0.out)).trans Z0.out,((HB.out).cell (World.block_lt_of_cell? w _ Z1.out)).trans Z1.out⟩ (fun hHeld=> ?_)
    generalize wr.drew=wd at BA BR BO HB HO HZ LW hHeld ⊢
    (refine zpa (v:= ?_) (a':= ?_) rfl rfl (Or.inl ⟨by rfl,?_⟩) ?_ ?_;rotate_left;(· intro w';go_simp;with_reducible rfl);rotate_left;(· show Act.put _ (some _) _=_;simp only [Act.put,List.setIfInBounds_toArray,List.set_cons_zero,List.set_cons_succ,zr,zD];try rfl))
    refine seq_loadcell (a':= ?a1_4) rfl rfl zq15 38 _ rfl (w.heap.size+1+1) 3 [.int .i64 x.f0,.int .i64 x.f1,.int .i64 x.f2] (.slice Av xs.length cv) [] _ rfl (fun w' hs=>hs.2.1) (rfl) (rfl) Tryz.underlying38 rfl ?hp4 ?hk4
    case hp4=>(show Act.put _ (some _) _=_;simp only [Act.put,List.setIfInBounds_toArray,List.set_cons_zero,List.set_cons_succ,zr,zD];try rfl)
    (refine zpa (v:= ?_) (a':= ?_) rfl rfl (Or.inl ⟨by rfl,?_⟩) ?_ ?_;rotate_left;(· intro w';go_simp;with_reducible rfl);rotate_left;(· show Act.put _ (some _) _=_;simp only [Act.put,List.setIfInBounds_toArray,List.set_cons_zero,List.set_cons_succ,zr,zD];try rfl))
    refine seq_loadcell (a':= ?a1_5) rfl rfl zq15 38 _ rfl w.heap.size 3 [.int .i64 x.f0,.int .i64 x.f1,.int .i64 x.f2] (.slice (some ad) x.f3.length cF) [] _ rfl (fun w' hs=>hs.1) (rfl) (rfl) Tryz.underlying38 rfl ?hp5 ?hk5
    case hp5=>(show Act.put _ (some _) _=_;simp only [Act.put,List.setIfInBounds_toArray,List.set_cons_zero,List.set_cons_succ,zr,zD];try rfl)
    iterate 3 (refine zpa (v:= ?_) (a':= ?_) rfl rfl (Or.inl ⟨by rfl,?_⟩) ?_ ?_;rotate_left;(· intro w';go_simp;with_reducible rfl);rotate_left;(· show Act.put _ (some _) _=_;simp only [Act.put,List.setIfInBounds_toArray,List.set_cons_zero,List.set_cons_succ,zr,zD];try rfl))
    (refine zTa (v:= ?_) (a':= ?_) rfl rfl (Or.inl ⟨by rfl,?_⟩) ?_ ?_;rotate_left;(· rintro w' ⟨s0,s1,s2,s3⟩;go_simp;with_reducible rfl);rotate_left;(· show Act.put _ (some _) _=_;simp only [Act.put,List.setIfInBounds_toArray,List.set_cons_zero,List.set_cons_succ,zr,zD];try rfl))
    (refine zpa (v:= ?_) (a':= ?_) rfl rfl (Or.inl ⟨by rfl,?_⟩) ?_ ?_;rotate_left;(· intro w';go_simp;with_reducible rfl);rotate_left;(· show Act.put _ (some _) _=_;simp only [Act.put,List.setIfInBounds_toArray,List.set_cons_zero,List.set_cons_succ,zr,zD];try rfl))
    refine seq_loadcell (a':= ?a1_6) rfl rfl zq15 38 _ rfl w.heap.size 3 [.int .i64 x.f0,.int .i64 x.f1,.int .i64 x.f2] (.slice (some ad) x.f3.length cF) [] _ rfl (fun w' hs=>hs.1) (rfl) (rfl) Tryz.underlying38 rfl ?hp6 ?hk6
    case hp6=>(show Act.put _ (some _) _=_;simp only [Act.put,List.setIfInBounds_toArray,List.set_cons_zero,List.set_cons_succ,zr,zD];try rfl)
    iterate 3 (refine zpa (v:= ?_) (a':= ?_) rfl rfl (Or.inl ⟨by rfl,?_⟩) ?_ ?_;rotate_left;(· intro w';go_simp;with_reducible rfl);rotate_left;(· show Act.put _ (some _) _=_;simp only [Act.put,List.setIfInBounds_toArray,List.set_cons_zero,List.set_cons_succ,zr,zD];try rfl))
    (refine zTa (v:= ?_) (a':= ?_) rfl rfl (Or.inl ⟨by rfl,?_⟩) ?_ ?_;rotate_left;(· rintro w' ⟨s0,s1,s2,s3⟩;go_simp;with_reducible rfl);rotate_left;(· show Act.put _ (some _) _=_;simp only [Act.put,List.setIfInBounds_toArray,List.set_cons_zero,List.set_cons_succ,zr,zD];try rfl))
    refine seq_e rfl rfl (fun K hK=> ?_)
    refine value_ (w1:= ?_) (v:= ?_) zq15 rfl ?_ ?_
    rotate_left 2
    ·go_simp
     constructor
     ·rfl
     ·rfl
    refine hK.out _ _ ⟨(zl BA.out _),(zl BO.out _),((zf HB.out _).cell (World.block_lt_of_cell? w _ Z0.out)).trans Z0.out,((zf HB.out _).cell (World.block_lt_of_cell? w _ Z1.out)).trans Z1.out⟩ (fun hHeld=> ?_)
    clear hK K
    refine zna (a':= ?_) ?_ ?_;rotate_left;(· show Act.put _ (some 23) _=_;simp only [Act.put,List.setIfInBounds_toArray,List.set_cons_zero,List.set_cons_succ,zr,zD];try rfl)
    refine seq_e rfl rfl (fun K hK=> ?_)
    refine Kd.R_append_rows_step (Kd.int .i64) (Rr:=Kd.K (Kd.int .i64) (wd.alloc (.cells #[] 3))) (w0:=w) (W:=wd.alloc (.cells #[] 3)) w.heap.size zq15 (.tmp 23) (.tmp 29) 29 3 (.int .i64 0) 8 rfl Tryz.underlying29 info3 rfl zq14 zq14 (.slice (some ⟨wd.heap.size,0,none⟩) 0 0) [] el.f1 A1 el.f1.length c1_ (fun k=>wd.heap.size≤k) (fun _=>False) rfl rfl ?aO ?aR (fun _ _ h=>h) (fun _ h=>h.elim) ?aF ?aB ?aS ?aL ?_
    (case aO=>exact R_made0 (Kd.int .i64) 3 w.heap.size wd _ HB.out.size (Nat.le_refl _))
    (case aR=>exact Kd.C_below KE.out (zf HB.out _))
    (case aF=>exact (fun k h=>by simp at h;omega))
    (case aB=>exact zf HB.out _)
    (case aS=>have:=HB.out.size;simp;omega)
    (case aL=>have:=EL.out;simp only [List.length_nil];omega)
    intro va wa ho hb hg hat
    rw [List.nil_append] at ho
    obtain ⟨Ai,ci,rfl⟩:=Kd.R_slice ho
    have RI:=zz ho
    have NW:=zz (show ∀k,k<wd.heap.size→wa.heap[k]?=wd.heap[k]? from fun k hk=>(hg.block k zq48 (fun e=>by have e2:some k=some wd.heap.size:=e;injection e2 with e2;omega)).trans (Below.heap_alloc wd _ k hk))
    have SW:=zz (show wd.heap.size<wa.heap.size from by have:=hg.size;simp at this;omega)
    replace BA:=zz ((NW.out _ (by have:=HZ.out;omega)).trans BA.out)
    replace BR:=zz ((NW.out _ (by have:=HZ.out;omega)).trans BR.out)
    replace BO:=zz ((NW.out _ HZ.out).trans BO.out)
    replace HB:=zz hb
    have HF:=zz (Kd.S_mono (Kd.S_move (Kd.S_bound HO.out) (fun k hk=>NW.out k hk.2.2.1)) (ok':=fun k=>w.heap.size+1+1<k∧¬(wd.heap.size≤k)) (fun k hk=>⟨hk.1,by have:=hk.2.2.1;omega⟩))
    clear HO ho hb hg hat
    refine hK.out _ _ ⟨BA.out,BO.out,((HB.out).cell (World.block_lt_of_cell? w _ Z0.out)).trans Z0.out,((HB.out).cell (World.block_lt_of_cell? w _ Z1.out)).trans Z1.out⟩ (fun hHeld=> ?_)
    clear hK K
    refine zna (a':= ?_) ?_ ?_;rotate_left;(· show Act.put _ (some 30) _=_;simp only [Act.put,List.setIfInBounds_toArray,List.set_cons_zero,List.set_cons_succ,zr,zD];try rfl)
    (refine zpa (v:= ?_) (a':= ?_) rfl rfl (Or.inl ⟨by rfl,?_⟩) ?_ ?_;rotate_left;(· intro w';go_simp;with_reducible rfl);rotate_left;(· show Act.put _ (some _) _=_;simp only [Act.put,List.setIfInBounds_toArray,List.set_cons_zero,List.set_cons_succ,zr,zD];try rfl))
    refine seq_e rfl rfl (fun K hK=> ?_)
    refine value_ (w1:= ?_) (v:= ?_) zq15 rfl ?_ ?_
    rotate_left 2
    ·go_simp
     constructor
     ·rfl
     ·rfl
    refine hK.out _ _ ⟨(zl BA.out _),(zl BO.out _),((zf HB.out _).cell (World.block_lt_of_cell? w _ Z0.out)).trans Z0.out,((zf HB.out _).cell (World.block_lt_of_cell? w _ Z1.out)).trans Z1.out⟩ (fun hHeld=> ?_)
    clear hK K
    refine zna (a':= ?_) ?_ ?_;rotate_left;(· show Act.put _ (some 32) _=_;simp only [Act.put,List.setIfInBounds_toArray,List.set_cons_zero,List.set_cons_succ,zr,zD];try rfl)
    refine seq_e rfl rfl (fun K hK=> ?_)
    refine Kd.S_append_step k112 (w0:=w) (W:=wa) w.heap.size zq15 (.tmp 16) (.tmp 32) 38 112 (.agg #[.int .i64 0,.slice none 0 0]) 32 rfl Tryz.underlying38 info112 rfl zq14 zq5 (.slice Av xs.length cv) xs el [.int .i64 el.f0,.slice Ai el.f1.length ci] (fun k=>w.heap.size+1+1<k) (fun k=>wd.heap.size≤k) rfl rfl ?bM ?bP ?bF HF.out HB.out ?bS ?bL ?_
    (case bM=>exact zgb _ _ _ el RI.out)
    (case bP=>exact (fun k h=>⟨by have:=HZ.out;omega,fun e=>by have:=LV.out k e.symm;have:=LW.out;omega⟩))
    (case bF=>exact (fun k h=>by have:=HZ.out;have:=SW.out;omega))
    (case bS=>exact HB.out.size)
    (case bL=>have:=FL.out.1;have h2:=List.length_take_le i x.f3;rw [←HX.out] at h2;omega)
    intro vb wb ho hb hg hat
    have BA_:=zz (zO BA.out hg (fun e=>by have h2:=OKV.out _ e.symm;omega))
    have BR_:=zz (zO BR.out hg (fun e=>by have h2:=OKV.out _ e.symm;omega))
    have BO_:=zz (zO BO.out hg (fun e=>by have h2:=OKV.out _ e.symm;omega))
    have HO:=zz ho
    have HB_:=zz hb
    obtain ⟨Ab,cb,rfl⟩:=Kd.S_slice ho
    have NL:=zz (show (xs++[el]).length=xs.length+1 from by simp)
    clear BA BR BO HB ho hb hg hat
    refine hK.out _ _ ⟨BA_.out,BO_.out,((HB_.out).cell (World.block_lt_of_cell? w _ Z0.out)).trans Z0.out,((HB_.out).cell (World.block_lt_of_cell? w _ Z1.out)).trans Z1.out⟩ (fun hHeld=> ?_)
    clear hK K
    refine zna (a':= ?_) ?_ ?_;rotate_left;(· show Act.put _ (some 33) _=_;simp only [Act.put,List.setIfInBounds_toArray,List.set_cons_zero,List.set_cons_succ,zr,zD];try rfl)
    (refine zpa (v:= ?_) (a':= ?_) rfl rfl (Or.inl ⟨by rfl,?_⟩) ?_ ?_;rotate_left;(· intro w';go_simp;with_reducible rfl);rotate_left;(· show Act.put _ (some _) _=_;simp only [Act.put,List.setIfInBounds_toArray,List.set_cons_zero,List.set_cons_succ,zr,zD];try rfl))
    obtain ⟨nn,hnn⟩:∃m,m=(xs++[el]).length:=⟨_,rfl⟩
    simp only [←hnn] at HO ⊢
    refine seq_storecell rfl rfl zq15 38 _ _ rfl (w.heap.size+1+1) 3 (.slice Ab nn cb) (.slice Av xs.length cv) [.int .i64 x.f0,.int .i64 x.f1,.int .i64 x.f2] [] rfl rfl BO_.out zq15 rfl zq7 rfl rfl (fun W hp hn=> ?_)
    have OKB:=HO.out.choose_spec.1
    have HZ_:=zI BO_.out
    have B1:=zz (zfb BA_.out hp zq5)
    have B2:=zz (zfb BR_.out hp zq5)
    have B3:=zz hn
    have H1:=zz (hp.below w zq5 HB_.out)
    have H2:=zz (putS HO.out hp (fun k hk h=>by omega))
    have H3:=zz (show w.heap.size+1+1<W.heap.size from zI hn)
    clear BA_ BR_ BO_ HB_ HO hp hn OKB
    refine zZa ?_
    clear hHeld
    go_wp2
    go_roundg k1
    case measure=>omega
    case rel=>exact ⟨i+1,_,by rw [show wrap64 ((i:Int)+1)=((i+1:Nat):Int) by unfold wrap64;have:=FL.out.1;omega],⟨by have:=HQ.out;omega⟩,⟨by omega⟩,⟨by rw [List.take_succ_eq_append_getElem hlt,←HE.out,←HX.out];exact H2.out⟩,B1,B2,B3,H1,H3⟩
  ·have c1:decide ((i:Int)<(x.f3.length:Int))=false:=decide_eq_false zq5
   have hi:i=x.f3.length:=by have:=HI.out;omega
   have hx:=HX.out
   rw [hi,List.take_length] at hx
   subst hx
   clear HX
   go_wp2_with (first|((with_reducible refine zn (N:=35) rfl ?_);refine zA rfl 40 _ rfl (w.heap.size+1+1) 0 [] [.int .i64 x.f0,.int .i64 x.f1,.int .i64 x.f2,.slice Av x.f3.length cv] [] _ rfl BO.out rfl rfl Tryz.underlying40 rfl zq7 ?_)|((with_reducible refine zE (t:=40) (p:=2) rfl ?_);refine zK rfl 40 _ _ rfl rfl (w.heap.size+1) 0 [.int .i64 x.f0,.int .i64 x.f1,.int .i64 x.f2,.slice Av x.f3.length cv] [] [.int .i64 0,.int .i64 0,.int .i64 0,.slice none 0 0] [] rfl rfl BR.out rfl rfl rfl zq7 (fun v hv=>by simp only [List.mem_cons,List.not_mem_nil,or_false] at hv;rcases hv with rfl|rfl|rfl|rfl<;>rfl) ?_;intro W3 hp hn;have BR_:=zz hn;have HP:=zz hp;clear BR hp hn))
   have hz:=HZ.out
   have hb:=HP.out.below w zq5 HB.out
   refine bodyPost_ret (oresults_c rfl _ _ (w.heap.size+1) 40 _ _ _ rfl BR_.out Tryz.underlying40 rfl zq7) rfl ?_
   have hS:=putS HO.out HP.out (fun k hk h=>by omega)
   exact ⟨[.int .i64 x.f0,.int .i64 x.f1,.int .i64 x.f2]++[.slice Av x.f3.length cv],rfl,zcb _ _ _ x (Kd.S_mono (Kd.S_bound hS) (fun k hk=>⟨hk.2.1,hk.2.2.1⟩)),hb⟩
theorem kDiskL_lit {w:World} {l0:List ByteArray} {l1:List S156} {a b:Value} (h0:(Own.srow 9 Kd.string).K w l0 [a]) (h1:(Own.srow 156 k156).K w l1 [b]):kDiskL.K w (l0,l1) [a,b]:=Kpair h0 h1
theorem made_of_R {α:Type} {d:Kd α} (hE:d.E=[]) {e:Nat} {w w':World} {v:Value} {xs:List α} {ok:Nat→Prop} (h:d.R e w' w.heap.size ok v xs):(Own.srow e d).M w' w.heap.size (Fr w w') xs [v]:=
 (Own.srow e d).M_mono (fun k hk=>⟨Kd.R_base h k hk.symm,Kd.R_lt h k hk.symm⟩) (Own.srow_of_R hE h)
theorem cloneDisk_c (z:(List ByteArray×List S110)) {cs:List Value} (w:World) (h:kDisk.K w z cs) (hl:z.1.length≤2000000∧z.2.length≤2000000):
  Calls Tryz.prog 46 #[.agg cs.toArray] w fun e w'=>∃ds:List Value,e= .returned (.agg ds.toArray)∧kDisk.M w' w.heap.size (Fr w w') z ds∧Below w.heap.size w w':=by
 obtain ⟨l0,l1⟩:=z
 obtain ⟨A0,c0,A1,c1,rfl,m0,r0,m1,r1⟩:=zCa h
 refine (impl_cloneDisk.calls A0 c0 l0 A1 c1 l1 l0 l1 w r0 m0 r1 m1 (by
  have h1:l0.length≤2000000:=hl.1
  have h2:l1.length≤2000000:=hl.2
  unfold impl_cloneDisk.f slices_Clone_string_string.f impl_Put.f
  rw [if_pos zq5,if_pos zq5]
  rfl)).mono ?_
 rintro e w' ⟨v0,v1,rfl,R0,R1,hb⟩
 have T0:=Own.R_tightB rfl R0
 have T1:=Own.R_tightB rfl R1
 exact ⟨[v0,v1],rfl,znb T0.1 T1.1 T0.2.1 T1.2.1 (Own.types_ne T0.2.2 T1.2.2 zq14),hb⟩
theorem cloneInts_c (z:List Int) {v:Value} (w:World) (h:(Own.arow 3 (Kd.int .i64)).K w z [v]) (hl:z.length≤2000000):
  Calls Tryz.prog 87 #[v] w fun e w'=>∃u:Value,e= .returned u∧(Own.srow 3 (Kd.int .i64)).M w' w.heap.size (Fr w w') z [u]∧Below w.heap.size w w':=by
 obtain ⟨A,c,hv,m,r⟩:=h
 injection hv with hv
 subst hv
 refine (slices_Clone_int_int.calls A c z z w r m (by unfold slices_Clone_int_int.f;rw [if_pos zq5])).mono ?_
 rintro e w' ⟨u,rfl,R,hb⟩
 exact ⟨u,rfl,made_of_R rfl R,hb⟩
theorem eqInts_c (k:Nat) (z:List Int) {v0:Value} {v1:Value} (w:World) (h0:(Own.arow 3 (Kd.int .i64)).K w z [v0]) (h1:(Own.arow 3 (Kd.int .i64)).K w z [v1]) (hf:laws_eqIntS.f k z z=some true):
  Calls Tryz.prog 99 #[v0,v1] w fun e w'=>e= .returned (.bool true)∧Below w.heap.size w w':=by
 obtain ⟨A0,c0,hv,m0,r0⟩:=h0
 injection hv with hv
 subst hv
 obtain ⟨A1,c1,hv,m1,r1⟩:=h1
 injection hv with hv
 subst hv
 refine (laws_eqIntS.calls k A0 c0 z A1 c1 z true w r0 m0 r1 m1 hf).mono ?_
 rintro e w' ⟨he,hb⟩
 exact ⟨he,by first|exact hb|exact hb.below⟩
theorem toInts_c (k:Nat) (z:List Int) (r:List Int) {v0:Value} (w:World) (h0:(Own.arow 3 (Kd.int .i64)).K w z [v0]) (hf:laws_toIntS.f k z=some r):
  Calls Tryz.prog 85 #[v0] w fun e w'=>∃u:Value,e= .returned u∧(Own.srow 3 (Kd.int .i64)).M w' w.heap.size (Fr w w') r [u]∧Below w.heap.size w w':=by
 obtain ⟨A0,c0,hv,m0,r0⟩:=h0
 injection hv with hv
 subst hv
 refine (laws_toIntS.calls k A0 c0 z r w r0 m0 hf).mono ?_
 rintro e w' ⟨u,rfl,R,hb⟩
 exact ⟨u,rfl,made_of_R rfl R,hb⟩
theorem toDisk_c (k:Nat) (a:(List ByteArray×List S156)) (z:(List ByteArray×List S110)) {cs:List Value} (w:World) (h:kDiskL.K w a cs) (hf:laws_toDisk.f k a.1 a.2=some (z.1,z.2)):
 Calls Tryz.prog 66 #[.agg cs.toArray] w fun e w'=>∃ds:List Value,e= .returned (.agg ds.toArray)∧kDisk.M w' w.heap.size (Fr w w') z ds∧Below w.heap.size w w':=toDisk_o k a.1 a.2 z.1 z.2 w h hf
def eqDisk_c_f (k:Nat) (z0:(List ByteArray×List S110)) (z1:(List ByteArray×List S110)):Option Bool:=laws_eqDisk.f k z0.1 z0.2 z1.1 z1.2
theorem eqDisk_c (k:Nat) (z0:(List ByteArray×List S110)) {cs0:List Value} (z1:(List ByteArray×List S110)) {cs1:List Value} (r:Bool) (w:World) (h0:kDisk.K w z0 cs0) (h1:kDisk.K w z1 cs1) (hf:eqDisk_c_f k z0 z1=some r):
  Calls Tryz.prog 10 #[.agg cs0.toArray,.agg cs1.toArray] w fun e w'=>e= .returned (.bool r)∧Below w.heap.size w w':=by
 obtain ⟨p_0,q_0⟩:=z0
 obtain ⟨A_00,c_00,A_01,c_01,rfl,m_00,r_00,m_01,r_01⟩:=zCa h0
 obtain ⟨p_1,q_1⟩:=z1
 obtain ⟨A_10,c_10,A_11,c_11,rfl,m_10,r_10,m_11,r_11⟩:=zCa h1
 exact laws_eqDisk.calls k A_00 c_00 p_0 A_01 c_01 q_0 A_10 c_10 p_1 A_11 c_11 q_1 r w r_00 m_00 r_01 m_01 r_10 m_10 r_11 m_11 hf
def heldDisk_c_f (k:Nat) (z0:(List ByteArray×List S110)) (a:Int):Option Int:=laws_heldDisk.f k z0.1 z0.2 a
theorem heldDisk_c (k:Nat) (z0:(List ByteArray×List S110)) {cs0:List Value} (a:Int) (r:Int) (w:World) (h0:kDisk.K w z0 cs0) (hf:heldDisk_c_f k z0 a=some r):
  Calls Tryz.prog 16 #[.agg cs0.toArray,.int .i64 a] w fun e w'=>e= .returned (.int .i64 r)∧Below w.heap.size w w':=by
 obtain ⟨p_0,q_0⟩:=z0
 obtain ⟨A_00,c_00,A_01,c_01,rfl,m_00,r_00,m_01,r_01⟩:=zCa h0
 exact laws_heldDisk.calls k A_00 c_00 p_0 A_01 c_01 q_0 a r w r_00 m_00 r_01 m_01 hf
def eqMeta_c_f (k:Nat) (z0:S40) (z1:S40):Option Bool:=laws_eqMeta.f k z0.f0 z0.f1 z0.f2 z0.f3 z1.f0 z1.f1 z1.f2 z1.f3
theorem eqMeta_c (k:Nat) (z0:S40) {cs0:List Value} (z1:S40) {cs1:List Value} (r:Bool) (w:World) (h0:k40.K w z0 cs0) (h1:k40.K w z1 cs1) (hf:eqMeta_c_f k z0 z1=some r):
  Calls Tryz.prog 11 #[.agg cs0.toArray,.agg cs1.toArray] w fun e w'=>e= .returned (.bool r)∧Below w.heap.size w w':=by
 obtain ⟨x_0,rfl⟩:∃x,x=z0:=⟨_,rfl⟩
 obtain ⟨A_0,c_0,rfl,m_0,r_0⟩:=zEa h0
 obtain ⟨x_1,rfl⟩:∃x,x=z1:=⟨_,rfl⟩
 obtain ⟨A_1,c_1,rfl,m_1,r_1⟩:=zEa h1
 exact laws_eqMeta.calls k x_0.f0 x_0.f1 x_0.f2 A_0 c_0 x_0.f3 x_1.f0 x_1.f1 x_1.f2 A_1 c_1 x_1.f3 r w r_0 m_0 r_1 m_1 hf
def heldMeta_c_f (k:Nat) (z0:S40) (a:Int):Option Int:=laws_heldMeta.f k z0.f0 z0.f1 z0.f2 z0.f3 a
theorem heldMeta_c (k:Nat) (z0:S40) {cs0:List Value} (a:Int) (r:Int) (w:World) (h0:k40.K w z0 cs0) (hf:heldMeta_c_f k z0 a=some r):
  Calls Tryz.prog 17 #[.agg cs0.toArray,.int .i64 a] w fun e w'=>e= .returned (.int .i64 r)∧Below w.heap.size w w':=by
 obtain ⟨x_0,rfl⟩:∃x,x=z0:=⟨_,rfl⟩
 obtain ⟨A_0,c_0,rfl,m_0,r_0⟩:=zEa h0
 exact laws_heldMeta.calls k x_0.f0 x_0.f1 x_0.f2 A_0 c_0 x_0.f3 a r w r_0 m_0 hf
def EqWork (k:Nat) (z:(List ByteArray×List S110×Int×List Int×List Int×List Int)):Prop:=eqDisk_c_f k (z.1,z.2.1) (z.1,z.2.1)=some true∧laws_eqIntS.f k z.2.2.2.1 z.2.2.2.1=some true∧laws_eqIntS.f k z.2.2.2.2.1 z.2.2.2.2.1=some true∧laws_eqIntS.f k z.2.2.2.2.2 z.2.2.2.2.2=some true
theorem eqWork_c (k:Nat) (z:(List ByteArray×List S110×Int×List Int×List Int×List Int)) {cs ds:List Value} (w:World) (h:kWork.K w z cs) (h2:kWork.K w z ds) (hf:EqWork k z):
  Calls Tryz.prog 51 #[.agg cs.toArray,.agg ds.toArray] w fun e w'=>e= .returned (.bool true)∧Below w.heap.size w w':=by
 have hwp:=h
 obtain ⟨cp0,_,rfl,hp0,cp1,_,rfl,hp1,cp2,_,rfl,hp2,cp3,_,rfl,hp3,cp4,cp5,rfl,hp4,hp5⟩:=h
 have gp0:=hp0;obtain ⟨A_,k_,rfl,-,-⟩:=hp0;obtain ⟨vp0,hv⟩:∃v,v=Value.slice A_ (z.1).length k_:=⟨_,rfl⟩;rw [←hv] at gp0 hwp ⊢;clear hv
 have gp1:=hp1;obtain ⟨A_,k_,rfl,-,-⟩:=hp1;obtain ⟨vp1,hv⟩:∃v,v=Value.slice A_ (z.2.1).length k_:=⟨_,rfl⟩;rw [←hv] at gp1 hwp ⊢;clear hv
 obtain rfl:cp2=[.int .i64 z.2.2.1]:=hp2
 have gp3:=hp3;obtain ⟨A_,k_,rfl,-,-⟩:=hp3;obtain ⟨vp3,hv⟩:∃v,v=Value.slice A_ (z.2.2.2.1).length k_:=⟨_,rfl⟩;rw [←hv] at gp3 hwp ⊢;clear hv
 have gp4:=hp4;obtain ⟨A_,k_,rfl,-,-⟩:=hp4;obtain ⟨vp4,hv⟩:∃v,v=Value.slice A_ (z.2.2.2.2.1).length k_:=⟨_,rfl⟩;rw [←hv] at gp4 hwp ⊢;clear hv
 have gp5:=hp5;obtain ⟨A_,k_,rfl,-,-⟩:=hp5;obtain ⟨vp5,hv⟩:∃v,v=Value.slice A_ (z.2.2.2.2.2).length k_:=⟨_,rfl⟩;rw [←hv] at gp5 hwp ⊢;clear hv
 obtain ⟨ep,he⟩:∃cs,cs=[vp0]++([vp1]++([.int .i64 z.2.2.1]++([vp3]++([vp4]++([vp5]))))):=⟨_,rfl⟩;rw [←he] at hwp ⊢;have Ep:=zz he;have Wp:=zz hwp;have Np:=zz (show ep.length=6 from Kd.K_len _ hwp);clear he hwp
 have Kp0:=zz gp0;clear gp0
 have Kp1:=zz gp1;clear gp1
 have Kp3:=zz gp3;clear gp3
 have Kp4:=zz gp4;clear gp4
 have Kp5:=zz gp5;clear gp5
 have hwq:=h2
 obtain ⟨cq0,_,rfl,hq0,cq1,_,rfl,hq1,cq2,_,rfl,hq2,cq3,_,rfl,hq3,cq4,cq5,rfl,hq4,hq5⟩:=h2
 have gq0:=hq0;obtain ⟨A_,k_,rfl,-,-⟩:=hq0;obtain ⟨vq0,hv⟩:∃v,v=Value.slice A_ (z.1).length k_:=⟨_,rfl⟩;rw [←hv] at gq0 hwq ⊢;clear hv
 have gq1:=hq1;obtain ⟨A_,k_,rfl,-,-⟩:=hq1;obtain ⟨vq1,hv⟩:∃v,v=Value.slice A_ (z.2.1).length k_:=⟨_,rfl⟩;rw [←hv] at gq1 hwq ⊢;clear hv
 obtain rfl:cq2=[.int .i64 z.2.2.1]:=hq2
 have gq3:=hq3;obtain ⟨A_,k_,rfl,-,-⟩:=hq3;obtain ⟨vq3,hv⟩:∃v,v=Value.slice A_ (z.2.2.2.1).length k_:=⟨_,rfl⟩;rw [←hv] at gq3 hwq ⊢;clear hv
 have gq4:=hq4;obtain ⟨A_,k_,rfl,-,-⟩:=hq4;obtain ⟨vq4,hv⟩:∃v,v=Value.slice A_ (z.2.2.2.2.1).length k_:=⟨_,rfl⟩;rw [←hv] at gq4 hwq ⊢;clear hv
 have gq5:=hq5;obtain ⟨A_,k_,rfl,-,-⟩:=hq5;obtain ⟨vq5,hv⟩:∃v,v=Value.slice A_ (z.2.2.2.2.2).length k_:=⟨_,rfl⟩;rw [←hv] at gq5 hwq ⊢;clear hv
 obtain ⟨eq,he⟩:∃cs,cs=[vq0]++([vq1]++([.int .i64 z.2.2.1]++([vq3]++([vq4]++([vq5]))))):=⟨_,rfl⟩;rw [←he] at hwq ⊢;have Eq:=zz he;have Wq:=zz hwq;have Nq:=zz (show eq.length=6 from Kd.K_len _ hwq);clear he hwq
 have Kq0:=zz gq0;clear gq0
 have Kq1:=zz gq1;clear gq1
 have Kq3:=zz gq3;clear gq3
 have Kq4:=zz gq4;clear gq4
 have Kq5:=zz gq5;clear gq5
 obtain ⟨fF0,fF2,fF3,fF4⟩:=hf
 have F0:=zz fF0;clear fF0
 have F2:=zz fF2;clear fF2
 have F3:=zz fF3;clear fF3
 have F4:=zz fF4;clear fF4
 have O:=zz (Nat.le_refl w.heap.size)
 have E:=zz (Env.start w)
 go_enter Tryz.func51,Tryz.ntmps51
 go_wp2_with (first|((with_reducible refine zn (N:=6) rfl ?_);replace O:=zz (And.intro E.out.le O.out);replace E:=zz (E.out.alloc ep 44 (g:=w.heap.size) rfl);replace E:=zz (E.out.alloc eq 44 (g:=(w.heap.size+1)) zq16);refine zA rfl 37 _ rfl w.heap.size 0 [] [vp0,vp1] ([.int .i64 z.2.2.1]++([vp3]++([vp4]++[vp5]))) _ rfl (E.out.box 1 rfl) zq19 (rfl) Tryz.underlying37 rfl zq7 ?_)|((with_reducible refine zn (N:=8) rfl ?_);refine zA rfl 37 _ rfl (w.heap.size+1) 0 [] [vq0,vq1] ([.int .i64 z.2.2.1]++([vq3]++([vq4]++[vq5]))) _ rfl (E.out.box 0 rfl) zq33 (rfl) Tryz.underlying37 rfl zq7 ?_))
 ((with_reducible refine (eqDisk_c k (z.1,z.2.1) (z.1,z.2.1) true _ (zoa (E.out.K Kp0.out) (E.out.K Kp1.out)) (zoa (E.out.K Kq0.out) (E.out.K Kq1.out)) F0.out).mono ?_);rintro e w1_ ⟨rfl,hb⟩)
 replace E:=zz (E.out.call hb);clear hb
 go_wp2_with (first|((with_reducible refine zn (N:=12) rfl ?_);refine zda rfl 3 _ rfl w.heap.size 2 ([vp0]++[vp1]) (.int .i64 z.2.2.1) ([vp3]++([vp4]++[vp5])) rfl (E.out.box 1 rfl) zq19 (rfl) Tryz.underlying3 rfl ?_)|((with_reducible refine zn (N:=14) rfl ?_);refine zda rfl 3 _ rfl (w.heap.size+1) 2 ([vq0]++[vq1]) (.int .i64 z.2.2.1) ([vq3]++([vq4]++[vq5])) rfl (E.out.box 0 rfl) zq33 (rfl) Tryz.underlying3 rfl ?_)|((with_reducible refine zn (N:=17) rfl ?_);refine zda rfl 29 _ rfl w.heap.size 3 ([vp0]++([vp1]++[.int .i64 z.2.2.1])) (vp3) ([vp4]++[vp5]) rfl (E.out.box 1 rfl) zq19 (rfl) Tryz.underlying29 rfl ?_)|((with_reducible refine zn (N:=19) rfl ?_);refine zda rfl 29 _ rfl (w.heap.size+1) 3 ([vq0]++([vq1]++[.int .i64 z.2.2.1])) (vq3) ([vq4]++[vq5]) rfl (E.out.box 0 rfl) zq33 (rfl) Tryz.underlying29 rfl ?_))
 ((with_reducible refine (eqInts_c k z.2.2.2.1 _ (E.out.K Kp3.out) (E.out.K Kq3.out) F2.out).mono ?_);rintro e w2_ ⟨rfl,hb⟩)
 replace E:=zz (E.out.call hb);clear hb
 go_wp2_with (first|((with_reducible refine zn (N:=23) rfl ?_);refine zda rfl 29 _ rfl w.heap.size 4 ([vp0]++([vp1]++([.int .i64 z.2.2.1]++[vp3]))) (vp4) [vp5] rfl (E.out.box 1 rfl) zq19 (rfl) Tryz.underlying29 rfl ?_)|((with_reducible refine zn (N:=25) rfl ?_);refine zda rfl 29 _ rfl (w.heap.size+1) 4 ([vq0]++([vq1]++([.int .i64 z.2.2.1]++[vq3]))) (vq4) [vq5] rfl (E.out.box 0 rfl) zq33 (rfl) Tryz.underlying29 rfl ?_))
 ((with_reducible refine (eqInts_c k z.2.2.2.2.1 _ (E.out.K Kp4.out) (E.out.K Kq4.out) F3.out).mono ?_);rintro e w3_ ⟨rfl,hb⟩)
 replace E:=zz (E.out.call hb);clear hb
 go_wp2_with (first|((with_reducible refine zn (N:=29) rfl ?_);refine zda rfl 29 _ rfl w.heap.size 5 ([vp0]++([vp1]++([.int .i64 z.2.2.1]++([vp3]++[vp4])))) (vp5) [] rfl (E.out.box 1 rfl) zq19 (rfl) Tryz.underlying29 rfl ?_)|((with_reducible refine zn (N:=31) rfl ?_);refine zda rfl 29 _ rfl (w.heap.size+1) 5 ([vq0]++([vq1]++([.int .i64 z.2.2.1]++([vq3]++[vq4])))) (vq5) [] rfl (E.out.box 0 rfl) zq33 (rfl) Tryz.underlying29 rfl ?_))
 ((with_reducible refine (eqInts_c k z.2.2.2.2.2 _ (E.out.K Kp5.out) (E.out.K Kq5.out) F4.out).mono ?_);rintro e w4_ ⟨rfl,hb⟩)
 replace E:=zz (E.out.call hb);clear hb
 go_wp2_with fail
 go_ret
 exact ⟨rfl,E.out.below⟩
def ToWork (k:Nat) (a:(List ByteArray×List S156×Int×List Int×List Int×List Int)) (z:(List ByteArray×List S110×Int×List Int×List Int×List Int)):Prop:=laws_toDisk.f k a.1 a.2.1=some (z.1,z.2.1)∧z.2.2.1=a.2.2.1∧laws_toIntS.f k a.2.2.2.1=some z.2.2.2.1∧laws_toIntS.f k a.2.2.2.2.1=some z.2.2.2.2.1∧laws_toIntS.f k a.2.2.2.2.2=some z.2.2.2.2.2
theorem toWork_c (k:Nat) (a:(List ByteArray×List S156×Int×List Int×List Int×List Int)) (z:(List ByteArray×List S110×Int×List Int×List Int×List Int)) {cs:List Value} (w:World) (h:kWorkL.K w a cs) (hf:ToWork k a z):
  Calls Tryz.prog 41 #[.agg cs.toArray] w fun e w'=>∃ds:List Value,e= .returned (.agg ds.toArray)∧kWork.M w' w.heap.size (Fr w w') z ds∧Below w.heap.size w w':=by
 have hwp:=h
 obtain ⟨cp0,_,rfl,hp0,cp1,_,rfl,hp1,cp2,_,rfl,hp2,cp3,_,rfl,hp3,cp4,cp5,rfl,hp4,hp5⟩:=h
 have gp0:=hp0;obtain ⟨A_,k_,rfl,-,-⟩:=hp0;obtain ⟨vp0,hv⟩:∃v,v=Value.slice A_ (a.1).length k_:=⟨_,rfl⟩;rw [←hv] at gp0 hwp ⊢;clear hv
 have gp1:=hp1;obtain ⟨A_,k_,rfl,-,-⟩:=hp1;obtain ⟨vp1,hv⟩:∃v,v=Value.slice A_ (a.2.1).length k_:=⟨_,rfl⟩;rw [←hv] at gp1 hwp ⊢;clear hv
 obtain rfl:cp2=[.int .i64 a.2.2.1]:=hp2
 have gp3:=hp3;obtain ⟨A_,k_,rfl,-,-⟩:=hp3;obtain ⟨vp3,hv⟩:∃v,v=Value.slice A_ (a.2.2.2.1).length k_:=⟨_,rfl⟩;rw [←hv] at gp3 hwp ⊢;clear hv
 have gp4:=hp4;obtain ⟨A_,k_,rfl,-,-⟩:=hp4;obtain ⟨vp4,hv⟩:∃v,v=Value.slice A_ (a.2.2.2.2.1).length k_:=⟨_,rfl⟩;rw [←hv] at gp4 hwp ⊢;clear hv
 have gp5:=hp5;obtain ⟨A_,k_,rfl,-,-⟩:=hp5;obtain ⟨vp5,hv⟩:∃v,v=Value.slice A_ (a.2.2.2.2.2).length k_:=⟨_,rfl⟩;rw [←hv] at gp5 hwp ⊢;clear hv
 obtain ⟨ep,he⟩:∃cs,cs=[vp0]++([vp1]++([.int .i64 a.2.2.1]++([vp3]++([vp4]++([vp5]))))):=⟨_,rfl⟩;rw [←he] at hwp ⊢;have Ep:=zz he;have Wp:=zz hwp;have Np:=zz (show ep.length=6 from Kd.K_len _ hwp);clear he hwp
 have Kp0:=zz gp0;clear gp0
 have Kp1:=zz gp1;clear gp1
 have Kp3:=zz gp3;clear gp3
 have Kp4:=zz gp4;clear gp4
 have Kp5:=zz gp5;clear gp5
 obtain ⟨fF0,fF1,fF2,fF3,fF4⟩:=hf
 have F0:=zz fF0;clear fF0
 have F1:=zz fF1;clear fF1
 have F2:=zz fF2;clear fF2
 have F3:=zz fF3;clear fF3
 have F4:=zz fF4;clear fF4
 have O:=zz (Nat.le_refl w.heap.size)
 have E:=zz (Env.start w)
 go_enter Tryz.func41,Tryz.ntmps41
 go_wp2_with (first|((with_reducible refine zn (N:=5) rfl ?_);replace O:=zz (And.intro E.out.le O.out);replace E:=zz (E.out.alloc ep 31 (g:=w.heap.size) rfl);replace E:=zz (E.out.alloc Z44 44 (g:=(w.heap.size+1)) zq16);replace E:=zz (E.out.alloc Z44 44 (g:=(w.heap.size+1+1)) zq16);refine zA rfl 28 _ rfl w.heap.size 0 [] [vp0,vp1] ([.int .i64 a.2.2.1]++([vp3]++([vp4]++[vp5]))) _ rfl (E.out.box 2 rfl) zq19 (rfl) Tryz.underlying28 rfl zq7 ?_))
 ((with_reducible refine (toDisk_c k (a.1,a.2.1) (z.1,z.2.1) _ (kDiskL_lit (E.out.K Kp0.out) (E.out.K Kp1.out)) F0.out).mono ?_);rintro e w1_ ⟨d2_,rfl,Md2_,hb⟩)
 have q:=E.out.made4 O.out 2 rfl Md2_ hb;clear O E Md2_ hb;obtain ⟨n3_,m4_,Ld2_,Od2_,O,E⟩:=q
 go_wp2_with (first|((with_reducible refine zE (t:=37) (p:=7) rfl ?_);refine zK rfl 37 _ _ rfl rfl (w.heap.size+1+1) 0 d2_ [] [.slice none 0 0,.slice none 0 0] [.int .i64 0,.slice none 0 0,.slice none 0 0,.slice none 0 0] rfl rfl (E.out.box 1 rfl) zq6 (rfl) (by rw [Ld2_.out];rfl) zq45 Od2_.out ?_;intro W5_ hp hn;replace E:=E.out.put2 1 hp hn zq8;clear hp hn)|((with_reducible refine zn (N:=9) rfl ?_);refine zda rfl 3 _ rfl w.heap.size 2 ([vp0]++[vp1]) (.int .i64 a.2.2.1) ([vp3]++([vp4]++[vp5])) rfl (E.out.box 3 rfl) zq19 (rfl) Tryz.underlying3 rfl ?_)|((with_reducible refine zE (t:=3) (p:=10) rfl ?_);refine zha rfl 3 _ _ rfl rfl (w.heap.size+1+1) 2 (.int .i64 a.2.2.1) (.int .i64 0) d2_ [.slice none 0 0,.slice none 0 0,.slice none 0 0] rfl rfl (E.out.box 1 rfl) zq6 (Ld2_.out) zq7 rfl rfl ?_;intro W6_ hp hn;replace E:=E.out.put2 1 hp hn zq8;clear hp hn)|((with_reducible refine zn (N:=12) rfl ?_);refine zda rfl 29 _ rfl w.heap.size 3 ([vp0]++([vp1]++[.int .i64 a.2.2.1])) (vp3) ([vp4]++[vp5]) rfl (E.out.box 3 rfl) zq19 (rfl) Tryz.underlying29 rfl ?_))
 ((with_reducible refine (toInts_c k a.2.2.2.1 z.2.2.2.1 _ (E.out.K Kp3.out) F2.out).mono ?_);rintro e w7_ ⟨d8_,rfl,Md8_,hb⟩)
 have q:=E.out.made4 O.out 1 rfl Md8_ hb;clear O E Md8_ hb;obtain ⟨n9_,m10_,Ld8_,Od8_,O,E⟩:=q
 obtain ⟨B11_,e12_,hv,-⟩:=E.out.mk_ 0 rfl;injection hv with hv;subst hv
 go_wp2_with (first|((with_reducible refine zE (t:=29) (p:=14) rfl ?_);refine zha rfl 29 _ _ rfl rfl (w.heap.size+1+1) 3 (.slice B11_ z.2.2.2.1.length e12_) (.slice none 0 0) (d2_++[.int .i64 a.2.2.1]) [.slice none 0 0,.slice none 0 0] rfl rfl (E.out.box 2 rfl) zq6 zq40 zq7 rfl rfl ?_;intro W13_ hp hn;replace E:=E.out.put2 2 hp hn zq8;clear hp hn)|((with_reducible refine zn (N:=16) rfl ?_);refine zda rfl 29 _ rfl w.heap.size 4 ([vp0]++([vp1]++([.int .i64 a.2.2.1]++[vp3]))) (vp4) [vp5] rfl (E.out.box 4 rfl) zq19 (rfl) Tryz.underlying29 rfl ?_))
 ((with_reducible refine (toInts_c k a.2.2.2.2.1 z.2.2.2.2.1 _ (E.out.K Kp4.out) F3.out).mono ?_);rintro e w14_ ⟨d15_,rfl,Md15_,hb⟩)
 have q:=E.out.made4 O.out 1 rfl Md15_ hb;clear O E Md15_ hb;obtain ⟨n16_,m17_,Ld15_,Od15_,O,E⟩:=q
 obtain ⟨B18_,e19_,hv,-⟩:=E.out.mk_ 0 rfl;injection hv with hv;subst hv
 go_wp2_with (first|((with_reducible refine zE (t:=29) (p:=18) rfl ?_);refine zha rfl 29 _ _ rfl rfl (w.heap.size+1+1) 4 (.slice B18_ z.2.2.2.2.1.length e19_) (.slice none 0 0) (d2_++([.int .i64 a.2.2.1]++[.slice B11_ z.2.2.2.1.length e12_])) [.slice none 0 0] rfl rfl (E.out.box 3 rfl) zq6 zq40 zq7 rfl rfl ?_;intro W20_ hp hn;replace E:=E.out.put2 3 hp hn zq8;clear hp hn)|((with_reducible refine zn (N:=20) rfl ?_);refine zda rfl 29 _ rfl w.heap.size 5 ([vp0]++([vp1]++([.int .i64 a.2.2.1]++([vp3]++[vp4])))) (vp5) [] rfl (E.out.box 5 rfl) zq19 (rfl) Tryz.underlying29 rfl ?_))
 ((with_reducible refine (toInts_c k a.2.2.2.2.2 z.2.2.2.2.2 _ (E.out.K Kp5.out) F4.out).mono ?_);rintro e w21_ ⟨d22_,rfl,Md22_,hb⟩)
 have q:=E.out.made4 O.out 1 rfl Md22_ hb;clear O E Md22_ hb;obtain ⟨n23_,m24_,Ld22_,Od22_,O,E⟩:=q
 obtain ⟨B25_,e26_,hv,-⟩:=E.out.mk_ 0 rfl;injection hv with hv;subst hv
 obtain ⟨c28_,Ec28_,Lc28_,Oc28_⟩:=lump_ (d2_++([.int .i64 a.2.2.1]++([.slice B11_ z.2.2.2.1.length e12_]++([.slice B18_ z.2.2.2.2.1.length e19_]++[.slice B25_ z.2.2.2.2.2.length e26_])))) 6 zq40 (ones_app Od2_.out (ones_app (ones1 rfl) (ones_app (ones1 rfl) (ones_app (ones1 rfl) (ones1 rfl)))))
 go_wp2_with (first|((with_reducible refine zE (t:=29) (p:=22) rfl ?_);refine zha rfl 29 _ _ rfl rfl (w.heap.size+1+1) 5 (.slice B25_ z.2.2.2.2.2.length e26_) (.slice none 0 0) (d2_++([.int .i64 a.2.2.1]++([.slice B11_ z.2.2.2.1.length e12_]++[.slice B18_ z.2.2.2.2.1.length e19_]))) [] rfl rfl (E.out.box 4 rfl) zq6 zq40 zq7 rfl rfl ?_;intro W27_ hp hn;replace E:=E.out.put2 4 hp hn zq8;clear hp hn)|((with_reducible refine zn (N:=23) rfl ?_);refine zA rfl 44 _ rfl (w.heap.size+1+1) 0 [] c28_ [] _ rfl (E.out.box 4 rfl) (by simp only [aA,aN,aL];rw [Ec28_.out];first|done|rfl|(simp only [aA,aN,aL];first|done|rfl)) (rfl) Tryz.underlying44 rfl (by rw [Lc28_.out];kernel_rfl) ?_)|((with_reducible refine zE (t:=44) (p:=2) rfl ?_);refine zK rfl 44 _ _ rfl rfl (w.heap.size+1) 0 c28_ [] Z44 [] rfl rfl (E.out.box 5 rfl) zq6 (rfl) (by rw [Lc28_.out];rfl) (by rw [Lc28_.out];kernel_rfl) Oc28_.out ?_;intro W29_ hp hn;replace E:=E.out.put2 5 hp hn zq8;clear hp hn))
 have BX:=zz (show _=some (Obj.cells (c28_:List Value).toArray 44 (0,0)) from by first|exact (E.out.box 5 rfl)|simpa only [aA,aN,aL] using (E.out.box 5 rfl))
 refine bodyPost_ret (oresults_c rfl _ _ (w.heap.size+1) 44 _ _ _ rfl BX.out Tryz.underlying44 rfl (by rw [List.size_toArray,show (c28_:List Value).length=6 from Lc28_.out];kernel_rfl)) rfl ?_
 have e_:((z.1,z.2.1,a.2.2.1,z.2.2.2.1,z.2.2.2.2.1,z.2.2.2.2.2):(List ByteArray×List S110×Int×List Int×List Int×List Int))=z:=by (try simp only [←F1.out])<;>rfl
 rw [←e_]
 exact ⟨_,rfl,(by rw [Ec28_.out];exact fresh (d:=kWork) (kWork_of2 (E.out.made 3 rfl) (arow_of_srow (E.out.made 2 rfl)) (arow_of_srow (E.out.made 1 rfl)) (arow_of_srow (E.out.made 0 rfl)) (fun k h1 h2=>by have o:=O.out;(try simp only [Iv,true_and,or_false,false_or] at h1 h2)<;>omega) (fun k h1 h2=>by have o:=O.out;(try simp only [Iv,true_and,or_false,false_or] at h1 h2)<;>omega) (fun k h1 h2=>by have o:=O.out;(try simp only [Iv,true_and,or_false,false_or] at h1 h2)<;>omega)) (Nat.le_refl _)),E.out.below⟩
def EqTxn (k:Nat) (z:(S40×(List ByteArray×List S110×Int×List Int×List Int×List Int)×Int)):Prop:=eqMeta_c_f k z.1 z.1=some true∧EqWork k z.2.1
theorem eqTxn_c (k:Nat) (z:(S40×(List ByteArray×List S110×Int×List Int×List Int×List Int)×Int)) {cs ds:List Value} (w:World) (h:kTxn.K w z cs) (h2:kTxn.K w z ds) (hf:EqTxn k z):
  Calls Tryz.prog 12 #[.agg cs.toArray,.agg ds.toArray] w fun e w'=>e= .returned (.bool true)∧Below w.heap.size w w':=by
 have hwp:=h
 obtain ⟨cp0,_,rfl,hp0,cp1,cp2,rfl,hp1,hp2⟩:=h
 obtain rfl:cp2=[.int .i64 z.2.2]:=hp2
 obtain ⟨ep,he⟩:∃cs,cs=cp0++(cp1++([.int .i64 z.2.2])):=⟨_,rfl⟩;rw [←he] at hwp ⊢;have Ep:=zz he;have Wp:=zz hwp;have Np:=zz (show ep.length=11 from Kd.K_len _ hwp);clear he hwp
 have Kp0:=zz hp0;have Lp0:=zz (show cp0.length=4 from Kd.K_len _ hp0);clear hp0
 have Kp1:=zz hp1;have Lp1:=zz (show cp1.length=6 from Kd.K_len _ hp1);clear hp1
 have hwq:=h2
 obtain ⟨cq0,_,rfl,hq0,cq1,cq2,rfl,hq1,hq2⟩:=h2
 obtain rfl:cq2=[.int .i64 z.2.2]:=hq2
 obtain ⟨eq,he⟩:∃cs,cs=cq0++(cq1++([.int .i64 z.2.2])):=⟨_,rfl⟩;rw [←he] at hwq ⊢;have Eq:=zz he;have Wq:=zz hwq;have Nq:=zz (show eq.length=11 from Kd.K_len _ hwq);clear he hwq
 have Kq0:=zz hq0;have Lq0:=zz (show cq0.length=4 from Kd.K_len _ hq0);clear hq0
 have Kq1:=zz hq1;have Lq1:=zz (show cq1.length=6 from Kd.K_len _ hq1);clear hq1
 obtain ⟨fF0,fF1⟩:=hf
 have F0:=zz fF0;clear fF0
 have F1:=zz fF1;clear fF1
 have O:=zz (Nat.le_refl w.heap.size)
 have E:=zz (Env.start w)
 go_enter Tryz.func12,Tryz.ntmps12
 go_wp2_with (first|((with_reducible refine zn (N:=6) rfl ?_);replace O:=zz (And.intro E.out.le O.out);replace E:=zz (E.out.alloc ep 46 (g:=w.heap.size) rfl);replace E:=zz (E.out.alloc eq 46 (g:=(w.heap.size+1)) zq16);refine zA rfl 40 _ rfl w.heap.size 0 [] cp0 (cp1++[.int .i64 z.2.2]) _ rfl (E.out.box 1 rfl) zq19 (rfl) Tryz.underlying40 rfl (by rw [Lp0.out];kernel_rfl) ?_)|((with_reducible refine zn (N:=8) rfl ?_);refine zA rfl 40 _ rfl (w.heap.size+1) 0 [] cq0 (cq1++[.int .i64 z.2.2]) _ rfl (E.out.box 0 rfl) zq33 (rfl) Tryz.underlying40 rfl (by rw [Lq0.out];kernel_rfl) ?_))
 ((with_reducible refine (eqMeta_c k z.1 z.1 true _ (E.out.K Kp0.out) (E.out.K Kq0.out) F0.out).mono ?_);rintro e w1_ ⟨rfl,hb⟩)
 replace E:=zz (E.out.call hb);clear hb
 go_wp2_with (first|((with_reducible refine zn (N:=12) rfl ?_);refine zA rfl 44 _ rfl w.heap.size 4 cp0 cp1 [.int .i64 z.2.2] _ rfl (E.out.box 1 rfl) zq19 (Lp0.out) Tryz.underlying44 rfl (by rw [Lp1.out];kernel_rfl) ?_)|((with_reducible refine zn (N:=14) rfl ?_);refine zA rfl 44 _ rfl (w.heap.size+1) 4 cq0 cq1 [.int .i64 z.2.2] _ rfl (E.out.box 0 rfl) zq33 (Lq0.out) Tryz.underlying44 rfl (by rw [Lq1.out];kernel_rfl) ?_))
 ((with_reducible refine (eqWork_c k z.2.1 _ (E.out.K Kp1.out) (E.out.K Kq1.out) F1.out).mono ?_);rintro e w2_ ⟨rfl,hb⟩)
 replace E:=zz (E.out.call hb);clear hb
 go_wp2_with (first|((with_reducible refine zn (N:=18) rfl ?_);refine zda rfl 3 _ rfl w.heap.size 10 (cp0++cp1) (.int .i64 z.2.2) [] rfl (E.out.box 1 rfl) zq19 (by simp only [List.length_append,List.length_cons,List.length_nil,Lp0.out,Lp1.out]) Tryz.underlying3 rfl ?_)|((with_reducible refine zn (N:=20) rfl ?_);refine zda rfl 3 _ rfl (w.heap.size+1) 10 (cq0++cq1) (.int .i64 z.2.2) [] rfl (E.out.box 0 rfl) zq33 (by simp only [List.length_append,List.length_cons,List.length_nil,Lq0.out,Lq1.out]) Tryz.underlying3 rfl ?_))
 go_ret
 exact ⟨rfl,E.out.below⟩
def ToTxn (k:Nat) (a:(S24×(List ByteArray×List S156×Int×List Int×List Int×List Int)×Int)) (z:(S40×(List ByteArray×List S110×Int×List Int×List Int×List Int)×Int)):Prop:=laws_toMeta.f k a.1.f0 a.1.f1 a.1.f2 a.1.f3=some (z.1.f0,z.1.f1,z.1.f2,z.1.f3)∧ToWork k a.2.1 z.2.1∧z.2.2=a.2.2
theorem toTxn_c (k:Nat) (a:(S24×(List ByteArray×List S156×Int×List Int×List Int×List Int)×Int)) (z:(S40×(List ByteArray×List S110×Int×List Int×List Int×List Int)×Int)) {cs:List Value} (w:World) (h:kTxnL.K w a cs) (hf:ToTxn k a z):
  Calls Tryz.prog 8 #[.agg cs.toArray] w fun e w'=>∃ds:List Value,e= .returned (.agg ds.toArray)∧kTxn.M w' w.heap.size (Fr w w') z ds∧Below w.heap.size w w':=by
 have hwp:=h
 obtain ⟨cp0,_,rfl,hp0,cp1,cp2,rfl,hp1,hp2⟩:=h
 obtain rfl:cp2=[.int .i64 a.2.2]:=hp2
 obtain ⟨ep,he⟩:∃cs,cs=cp0++(cp1++([.int .i64 a.2.2])):=⟨_,rfl⟩;rw [←he] at hwp ⊢;have Ep:=zz he;have Wp:=zz hwp;have Np:=zz (show ep.length=11 from Kd.K_len _ hwp);clear he hwp
 have Kp0:=zz hp0;have Lp0:=zz (show cp0.length=4 from Kd.K_len _ hp0);clear hp0
 have Kp1:=zz hp1;have Lp1:=zz (show cp1.length=6 from Kd.K_len _ hp1);clear hp1
 obtain ⟨fF0,fF1,fF2⟩:=hf
 have F0:=zz fF0;clear fF0
 have F1:=zz fF1;clear fF1
 have F2:=zz fF2;clear fF2
 have O:=zz (Nat.le_refl w.heap.size)
 have E:=zz (Env.start w)
 go_enter Tryz.func8,Tryz.ntmps8
 go_wp2_with (first|((with_reducible refine zn (N:=5) rfl ?_);replace O:=zz (And.intro E.out.le O.out);replace E:=zz (E.out.alloc ep 33 (g:=w.heap.size) rfl);replace E:=zz (E.out.alloc Z46 46 (g:=(w.heap.size+1)) zq16);replace E:=zz (E.out.alloc Z46 46 (g:=(w.heap.size+1+1)) zq16);refine zA rfl 24 _ rfl w.heap.size 0 [] cp0 (cp1++[.int .i64 a.2.2]) _ rfl (E.out.box 2 rfl) zq19 (rfl) Tryz.underlying24 rfl (by rw [Lp0.out];kernel_rfl) ?_))
 ((with_reducible refine (toMeta_o k a.1 z.1 _ (E.out.K Kp0.out) F0.out).mono ?_);rintro e w1_ ⟨d2_,rfl,Md2_,hb⟩)
 have q:=E.out.made4 O.out 4 rfl Md2_ hb;clear O E Md2_ hb;obtain ⟨n3_,m4_,Ld2_,Od2_,O,E⟩:=q
 go_wp2_with (first|((with_reducible refine zE (t:=40) (p:=7) rfl ?_);refine zK rfl 40 _ _ rfl rfl (w.heap.size+1+1) 0 d2_ [] [.int .i64 0,.int .i64 0,.int .i64 0,.slice none 0 0] [.slice none 0 0,.slice none 0 0,.int .i64 0,.slice none 0 0,.slice none 0 0,.slice none 0 0,.int .i64 0] rfl rfl (E.out.box 1 rfl) zq6 (rfl) (by rw [Ld2_.out];rfl) zq45 Od2_.out ?_;intro W5_ hp hn;replace E:=E.out.put2 1 hp hn zq8;clear hp hn)|((with_reducible refine zn (N:=9) rfl ?_);refine zA rfl 31 _ rfl w.heap.size 4 cp0 cp1 [.int .i64 a.2.2] _ rfl (E.out.box 3 rfl) zq19 (Lp0.out) Tryz.underlying31 rfl (by rw [Lp1.out];kernel_rfl) ?_))
 ((with_reducible refine (toWork_c k a.2.1 z.2.1 _ (E.out.K Kp1.out) F1.out).mono ?_);rintro e w6_ ⟨d7_,rfl,Md7_,hb⟩)
 have q:=E.out.made4 O.out 6 rfl Md7_ hb;clear O E Md7_ hb;obtain ⟨n8_,m9_,Ld7_,Od7_,O,E⟩:=q
 obtain ⟨c12_,Ec12_,Lc12_,Oc12_⟩:=lump_ (d2_++(d7_++[.int .i64 a.2.2])) 11 (by simp only [List.length_append,List.length_cons,List.length_nil,Ld2_.out,Ld7_.out]) (ones_app Od2_.out (ones_app Od7_.out (ones1 rfl)))
 go_wp2_with (first|((with_reducible refine zE (t:=44) (p:=11) rfl ?_);refine zK rfl 44 _ _ rfl rfl (w.heap.size+1+1) 4 d7_ d2_ [.slice none 0 0,.slice none 0 0,.int .i64 0,.slice none 0 0,.slice none 0 0,.slice none 0 0] [.int .i64 0] rfl rfl (E.out.box 2 rfl) zq6 (Ld2_.out) (by rw [Ld7_.out];rfl) zq59 Od7_.out ?_;intro W10_ hp hn;replace E:=E.out.put2 2 hp hn zq8;clear hp hn)|((with_reducible refine zn (N:=13) rfl ?_);refine zda rfl 3 _ rfl w.heap.size 10 (cp0++cp1) (.int .i64 a.2.2) [] rfl (E.out.box 4 rfl) zq19 (by simp only [List.length_append,List.length_cons,List.length_nil,Lp0.out,Lp1.out]) Tryz.underlying3 rfl ?_)|((with_reducible refine zE (t:=3) (p:=14) rfl ?_);refine zha rfl 3 _ _ rfl rfl (w.heap.size+1+1) 10 (.int .i64 a.2.2) (.int .i64 0) (d2_++d7_) [] rfl rfl (E.out.box 2 rfl) zq6 (by simp only [List.length_append,List.length_cons,List.length_nil,Ld2_.out,Ld7_.out]) zq7 rfl rfl ?_;intro W11_ hp hn;replace E:=E.out.put2 2 hp hn zq8;clear hp hn)|((with_reducible refine zn (N:=15) rfl ?_);refine zA rfl 46 _ rfl (w.heap.size+1+1) 0 [] c12_ [] _ rfl (E.out.box 2 rfl) (by simp only [aA,aN,aL];rw [Ec12_.out];first|done|rfl|(simp only [aA,aN,aL];first|done|rfl)) (rfl) Tryz.underlying46 rfl (by rw [Lc12_.out];kernel_rfl) ?_)|((with_reducible refine zE (t:=46) (p:=2) rfl ?_);refine zK rfl 46 _ _ rfl rfl (w.heap.size+1) 0 c12_ [] Z46 [] rfl rfl (E.out.box 3 rfl) zq6 (rfl) (by rw [Lc12_.out];rfl) (by rw [Lc12_.out];kernel_rfl) Oc12_.out ?_;intro W13_ hp hn;replace E:=E.out.put2 3 hp hn zq8;clear hp hn))
 have BX:=zz (show _=some (Obj.cells (c12_:List Value).toArray 46 (0,0)) from by first|exact (E.out.box 3 rfl)|simpa only [aA,aN,aL] using (E.out.box 3 rfl))
 refine bodyPost_ret (oresults_c rfl _ _ (w.heap.size+1) 46 _ _ _ rfl BX.out Tryz.underlying46 rfl (by rw [List.size_toArray,show (c12_:List Value).length=11 from Lc12_.out];kernel_rfl)) rfl ?_
 have e_:((z.1,z.2.1,a.2.2):(S40×(List ByteArray×List S110×Int×List Int×List Int×List Int)×Int))=z:=by (try simp only [←F2.out])<;>rfl
 rw [←e_]
 exact ⟨_,rfl,(by rw [Ec12_.out];exact fresh (d:=kTxn) (comb (E.out.made 1 rfl) (comb (E.out.made 0 rfl) Mint (fun k h1 h2=>by have o:=O.out;(try simp only [Iv,true_and,or_false,false_or] at h1 h2)<;>omega)) (fun k h1 h2=>by have o:=O.out;(try simp only [Iv,true_and,or_false,false_or] at h1 h2)<;>omega)) (Nat.le_refl _)),E.out.below⟩
def spec_l01In.f (a0:Int) (a1:Int) (a2:Int):Option (Bool):=if a0≥a1 then (some (decide (a0≤a2))) else (some false)
theorem spec_l01In.calls (a0:Int) (a1:Int) (a2:Int) (r:Bool) (w:World) (h:spec_l01In.f a0 a1 a2=some r):
  Calls Tryz.prog 77 #[.int .i64 a0,.int .i64 a1,.int .i64 a2] w fun e w'=>e= .returned (.bool r)∧Drawn0 w w':=by
 have H:(if a0≥a1 then (some (decide (a0≤a2))) else (some false))=some r:=h
 clear h
 by_cases c4:a0≥a1
 ·rw [if_pos c4] at H
  have c4b0:decide (a1≤a0)=true:=decide_eq_true c4
  clear c4
  obtain rfl:=Option.some.inj H
  go_enter Tryz.func77,Tryz.ntmps77
  go_wp2
  go_ret
  exact ⟨by first|rfl|(simp;done)|(simp [*];done),by repeat (first|exact Drawn0.refl _|apply Drawn0.step)⟩
 ·rw [if_neg c4] at H
  have c4b0:decide (a1≤a0)=false:=decide_eq_false c4
  clear c4
  obtain rfl:=Option.some.inj H
  go_enter Tryz.func77,Tryz.ntmps77
  go_wp2
  go_ret
  exact ⟨by first|rfl|(simp;done)|(simp [*];done),by repeat (first|exact Drawn0.refl _|apply Drawn0.step)⟩
def spec_SyncDisk.l0:Nat→Int→List ByteArray→List (S110)→List ByteArray→Option (List ByteArray×(List (S110)))
 |0,_,_,_,_=>none
 |k+1,x4,x397000,x397001,x405000=>if x4<(x397001.length:Int) then (if 0≤x4 then ((spec_l01In.f ((zy x397001 x4).f0) 0 (wrap64 ((x397000.length:Int)-1))).bind fun t406=>(if t406=true then (if 0≤((zy x397001 x4).f0) then (if ((zy x397001 x4).f0)<(x405000.length:Int) then (spec_SyncDisk.l0 k (wrap64 (x4+1)) x397000 x397001 (x405000.set (((zy x397001 x4).f0):Int).toNat ((zy x397001 x4).f1))) else (none)) else (none)) else (spec_SyncDisk.l0 k (wrap64 (x4+1)) x397000 x397001 x405000))) else (none)) else (some (x405000,([]:List (S110))))
def spec_SyncDisk.f (k:Nat) (l0_0:List ByteArray) (l0_1:List (S110)):Option (List ByteArray×(List (S110))):=(some (([]:List ByteArray):List ByteArray)).bind fun y398=>(if y398.length+l0_0.length<8796093022208 then (spec_SyncDisk.l0 k 0 l0_0 l0_1 (y398++l0_0)) else (none))
def spec_SyncDisk.T5:Bool×List (List Nat×List Nat):=(true,[([],[]),([0],[0]),([],[]),([1,2],[1,2]),([3],[3]),([4],[4]),([],[]),([6],[6]),([7],[7]),([8],[8]),([5,9],[5,9])])
def spec_SyncDisk.B5:List Nat:=[0,1,0,7,15,31,0,64,192,448,1023]
theorem spec_SyncDisk.tab5:rtab .any (zQa Tryz.f33 5)=spec_SyncDisk.T5:=by kernel_rfl
theorem spec_SyncDisk.bits5:zLa spec_SyncDisk.T5.2 spec_SyncDisk.B5=true:=by kernel_rfl
def spec_SyncDisk.T6:Bool×List (List Nat×List Nat):=(true,[([],[]),([0],[0]),([],[]),([2],[2]),([],[]),([3,4],[3,4]),([5],[5]),([6],[6]),([],[]),([8],[8]),([],[]),([9,10],[9,10]),([11],[11]),([12],[12]),([1,7,0,1,2,3,4,5,6,7,8,9,10,11,12,13],[1,7]),([14,13,0,1,2,3,4,5,6,7,8,9,10,11,12,13],[13,14])])
def spec_SyncDisk.B6:List Nat:=[0,1,0,4,0,28,60,124,0,256,0,1792,3840,7936,16383,32767]
theorem spec_SyncDisk.tab6:rtab .any (zQa Tryz.f33 6)=spec_SyncDisk.T6:=by kernel_rfl
theorem spec_SyncDisk.bits6:zLa spec_SyncDisk.T6.2 spec_SyncDisk.B6=true:=by kernel_rfl
theorem spec_SyncDisk.calls (k:Nat) (A0_0:Option Addr) (c0_0:Nat) (l0_0:List ByteArray) (A0_1:Option Addr) (c0_1:Nat) (l0_1:List (S110)) (r1:List ByteArray) (r2:List (S110)) (w:World) (hr0_0:Kd.C Kd.string w A0_0 l0_0.length l0_0) (hc0_0:l0_0.length≤c0_0) (hr0_1:Kd.C k110 w A0_1 l0_1.length l0_1) (hc0_1:l0_1.length≤c0_1) (h:spec_SyncDisk.f k l0_0 l0_1=some (r1,r2)):
  Calls Tryz.prog 33 #[.agg #[.slice A0_0 l0_0.length c0_0,.slice A0_1 l0_1.length c0_1]] w fun e w'=>∃v0_ v1_:Value,e= .returned (.agg #[v0_,v1_])∧Kd.R Kd.string 9 w' w.heap.size (fun _=>True) v0_ r1∧Kd.R k110 110 w' w.heap.size (fun _=>True) v1_ r2∧Below w.heap.size w w':=by
 have hu32:=Tryz.underlying37
 have HR0_0:=zz hr0_0
 have HC0_0:=zz hc0_0
 clear hr0_0 hc0_0
 have HR0_1:=zz hr0_1
 have HC0_1:=zz hc0_1
 clear hr0_1 hc0_1
 have HB:=zz (Below.refl w.heap.size w)
 have H:((some (([]:List ByteArray):List ByteArray)).bind fun y398=>(if y398.length+l0_0.length<8796093022208 then (spec_SyncDisk.l0 k 0 l0_0 l0_1 (y398++l0_0)) else (none)))=some (r1,r2):=h
 clear h
 obtain ⟨y398,hy398⟩:∃y_:List ByteArray,y_=(([]:List ByteArray)):=⟨_,rfl⟩
 replace H:(if y398.length+l0_0.length<8796093022208 then (spec_SyncDisk.l0 k 0 l0_0 l0_1 (y398++l0_0)) else (none))=some (r1,r2):=by first|(rw [hy398];with_reducible exact H)|(have H2_:=(Option.bind_some _ _).symm.trans H;rw [hy398];with_reducible exact H2_)|(have H2_:=(Option.bind_some _ _).symm.trans H;with_reducible exact H2_)|with_reducible exact H|(rw [hy398];exact H)|exact H
 have Ny398:=zz hy398
 clear hy398
 by_cases c2:y398.length+l0_0.length<8796093022208
 ·rw [if_pos c2] at H
  have LMc2:=zz c2
  clear c2
  obtain ⟨y401,hy401⟩:∃y_:List ByteArray,y_=(y398++l0_0):=⟨_,rfl⟩
  replace H:(spec_SyncDisk.l0 k 0 l0_0 l0_1 y401)=some (r1,r2):=by first|(rw [hy401];with_reducible exact H)|(have H2_:=(Option.bind_some _ _).symm.trans H;rw [hy401];with_reducible exact H2_)|(have H2_:=(Option.bind_some _ _).symm.trans H;with_reducible exact H2_)|with_reducible exact H|(rw [hy401];exact H)|exact H
  have Ny401:=zz hy401
  clear hy401
  have H':=zz H
  clear H
  go_enter Tryz.func33,Tryz.ntmps33
  go_wp2_with (first|((with_reducible refine zn (N:=1) rfl ?_);refine zF ?hg (N:=1) ?hd (cs:= #[.slice A0_0 l0_0.length c0_0,.slice A0_1 l0_1.length c0_1]) (t:=37) ?hr ?_;(case hd=>rfl);(case hg=>rfl);(case hr=>first|(go_simp;done)|(go_simp;rfl));intro gb396 hg w3 hbox hb;have n0_:=zz (zh zq1 hb);have n1_:=zz (hbox);have n2_:=zz ((by rw [hg];exact (zi zq1):w.heap.size≤gb396));have n3_:=zz ((by rw [hg];exact (zi zq1):w.heap.size≤gb396));clear HB;have HB:=n0_;have BK396:=n1_;have GW396:=n2_;have GE396:=n3_;clear n0_ n1_ n2_ n3_;clear hb hbox hg)|((with_reducible refine zn (N:=2) rfl ?_);refine zF ?hg (N:=2) ?hd (cs:= #[.slice none 0 0,.slice none 0 0]) (t:=37) ?hr ?_;(case hd=>rfl);(case hg=>rfl);(case hr=>first|(go_simp;done)|(go_simp;rfl));intro gb397 hg w4 hbox hb;have n0_:=zz (zo (g:=gb396) (o:= .cells #[.slice A0_0 l0_0.length c0_0,.slice A0_1 l0_1.length c0_1] 37 (0,0)) (zq0 BK396.out) hb);have n1_:=zz (zh (zq3 GE396.out) hb);have n2_:=zz (hbox);have n3_:=zz ((by rw [hg];exact (zi (zq3 GE396.out)):w.heap.size≤gb397));have n4_:=zz ((by rw [hg];exact (zi (zq3 GE396.out)):w.heap.size≤gb397));have n5_:=zz ((by rw [hg];exact Nat.ne_of_lt (zI (g:=gb396) (o:= .cells #[.slice A0_0 l0_0.length c0_0,.slice A0_1 l0_1.length c0_1] 37 (0,0)) (zq0 BK396.out)):gb396≠gb397));have n6_:=zz ((by rw [hg];exact Nat.ne_of_gt (zI (g:=gb396) (o:= .cells #[.slice A0_0 l0_0.length c0_0,.slice A0_1 l0_1.length c0_1] 37 (0,0)) (zq0 BK396.out)):gb397≠gb396));clear BK396;clear HB;have BK396:=n0_;have HB:=n1_;have BK397:=n2_;have GW397:=n3_;have GE397:=n4_;have NB396_397:=n5_;have NB397_396:=n6_;clear n0_ n1_ n2_ n3_ n4_ n5_ n6_;clear hb hbox hg)|((with_reducible refine zn (N:=5) rfl ?_);refine Kd.R_lit Kd.string _ 9 ?hg (N:=5) ?hd (xs:=([]:List ByteArray)) (inner:=[]) (ok:=fun _=>True) (okp:=fun _=>True) ?hr ?hp (fun _ hk=>hk) trivial (Below.refl _ _) (Nat.le_refl _) zq16 ?_;(case hd=>rfl);(case hg=>rfl);(case hr=>first|(go_simp;done)|(go_simp;rfl));(case hp=>exact (Reps.none _ _));intro v399 w5 ho6 hb hg_ hnew_;clear hg_ hnew_;(first|rw [←Ny398.out] at ho6|(simp only [Int.reduceToNat] at ho6;rw [←Ny398.out] at ho6));have n0_:=zz (Kd.R_lower ho6 (zi (zq2 GE396.out GE397.out)));have n1_:=zz (zo (g:=gb396) (o:= .cells #[.slice A0_0 l0_0.length c0_0,.slice A0_1 l0_1.length c0_1] 37 (0,0)) (zq0 BK396.out) hb);have n2_:=zz (zo (g:=gb397) (o:= .cells #[.slice none 0 0,.slice none 0 0] 37 (0,0)) (zq0 BK397.out) hb);have n3_:=zz (zh (zq2 GE396.out GE397.out) hb);clear BK396;clear BK397;clear HB;have HO400:=n0_;have BK396:=n1_;have BK397:=n2_;have HB:=n3_;clear n0_ n1_ n2_ n3_;clear hb ho6;have hnb7:=NB396_397.out;have hnc7:=NB397_396.out;have hcz8_0:w5.cell? ⟨gb396,0,none⟩=some (.slice A0_0 l0_0.length c0_0):=(zd BK396.out 0).trans rfl;have hcz8_1:w5.cell? ⟨gb396,1,none⟩=some (.slice A0_1 l0_1.length c0_1):=(zd BK396.out 1).trans rfl;have hfz8_0:=ze BK396.out 0;have hfz8_1:=ze BK396.out 1)|((with_reducible refine zS (b:= .append) (xs:= #[.tmp 5,.tmp 7]) rfl ?_);at_builtin;refine Kd.R_append_rows Kd.string (w0:=w) w.heap.size rfl (.tmp 5) (.tmp 7) 25 9 (.string ⟨#[]⟩) 16 rfl Tryz.underlying25 info9 rfl zq14 zq5 v399 y398 l0_0 _ _ _ (fun _=>True) (fun _=>False) rfl rfl ?aO ?aR (fun _ _ h=>h) (fun _ h=>h.elim) ?aF ?aB ?aS ?aL ?_;(case aR=>repeat (first|exact (Kd.C_below HR0_0.out HB.out)|(with_reducible refine Kd.C_alloc ?_ _)|(with_reducible refine Kd.C_drewN ?_ _)|(with_reducible refine Kd.C_drew ?_)));(case aB=>exact (zq2 GE396.out GE397.out));(case aF=>exact (fun _ _=>trivial));(case aO=>exact (zq11 HO400.out));(case aS=>exact (zi (zq2 GE396.out GE397.out)));(case aL=>have:=LMc2.out;omega);intro v402 w9 ho hb hg hat;rw [←Ny401.out] at ho;have n0_:=zz (zO (g:=gb396) (o:= .cells #[.slice A0_0 l0_0.length c0_0,.slice A0_1 l0_1.length c0_1] 37 (0,0)) (zq0 BK396.out) hg (Kd.R_ne HO400.out BK396.out zq14));have n1_:=zz (zO (g:=gb397) (o:= .cells #[.slice none 0 0,.slice none 0 0] 37 (0,0)) (zq0 BK397.out) hg (Kd.R_ne HO400.out BK397.out zq14));have n2_:=zz (hb);have n3_:=zz (ho);clear BK396;clear BK397;clear HB;clear HO400;have BK396:=n0_;have BK397:=n1_;have HB:=n2_;have HO403:=n3_;clear n0_ n1_ n2_ n3_;clear ho hb hg hat;obtain ⟨Ao10,co10,eo10⟩:=Kd.R_slice HO403.out;subst eo10)|((with_reducible refine zn (N:=3) rfl ?_);refine zF ?hg (N:=3) ?hd (cs:= #[.slice none 0 0,.slice none 0 0]) (t:=37) ?hr ?_;(case hd=>rfl);(case hg=>rfl);(case hr=>first|(go_simp;done)|(go_simp;rfl));intro gb404 hg w11 hbox hb;have n0_:=zz (Kd.R_below (zq11 HO403.out) hb);have n1_:=zz (zo (g:=gb396) (o:= .cells #[.slice A0_0 l0_0.length c0_0,.slice A0_1 l0_1.length c0_1] 37 (0,0)) (zq0 BK396.out) hb);have n2_:=zz (zo (g:=gb397) (o:= .cells #[.slice none 0 0,.slice none 0 0] 37 (0,0)) (zq0 BK397.out) hb);have n3_:=zz (zh (zq2 GE396.out GE397.out) hb);have n4_:=zz (hbox);have n5_:=zz ((by rw [hg];exact (zi (zq2 GE396.out GE397.out)):w.heap.size≤gb404));have n6_:=zz ((by rw [hg];exact (zi (zq2 GE396.out GE397.out)):w.heap.size≤gb404));have n7_:=zz ((by rw [hg];exact Nat.ne_of_lt (zI (g:=gb396) (o:= .cells #[.slice A0_0 l0_0.length c0_0,.slice A0_1 l0_1.length c0_1] 37 (0,0)) (zq0 BK396.out)):gb396≠gb404));have n8_:=zz ((by rw [hg];exact Nat.ne_of_gt (zI (g:=gb396) (o:= .cells #[.slice A0_0 l0_0.length c0_0,.slice A0_1 l0_1.length c0_1] 37 (0,0)) (zq0 BK396.out)):gb404≠gb396));have n9_:=zz ((by rw [hg];exact Nat.ne_of_lt (zI (g:=gb397) (o:= .cells #[.slice none 0 0,.slice none 0 0] 37 (0,0)) (zq0 BK397.out)):gb397≠gb404));have n10_:=zz ((by rw [hg];exact Nat.ne_of_gt (zI (g:=gb397) (o:= .cells #[.slice none 0 0,.slice none 0 0] 37 (0,0)) (zq0 BK397.out)):gb404≠gb397));clear HO403;clear BK396;clear BK397;clear HB;have HO403:=n0_;have BK396:=n1_;have BK397:=n2_;have HB:=n3_;have BK404:=n4_;have GW404:=n5_;have GE404:=n6_;have NB396_404:=n7_;have NB404_396:=n8_;have NB397_404:=n9_;have NB404_397:=n10_;clear n0_ n1_ n2_ n3_ n4_ n5_ n6_ n7_ n8_ n9_ n10_;clear hb hbox hg;have hnb12:=NB404_396.out;have hnc12:=NB396_404.out;have hnb13:=NB404_397.out;have hnc13:=NB397_404.out;have hcz14_0:w11.cell? ⟨gb404,0,none⟩=some (.slice none 0 0):=(zd BK404.out 0).trans rfl;have hcz14_1:w11.cell? ⟨gb404,1,none⟩=some (.slice none 0 0):=(zd BK404.out 1).trans rfl;have hfz14_0:=ze BK404.out 0;have hfz14_1:=ze BK404.out 1))
  go_loopg [4] k (fun kq v4 w'=>∃(x4_1:Int) (x405000_1:List ByteArray) (u405000:Value),v4= .int .i64 x4_1∧Z0 (spec_SyncDisk.l0 kq x4_1 l0_0 l0_1 x405000_1=some (r1,r2))∧Z0 (kq≤k)∧Z0 (Kd.R Kd.string 9 w' w.heap.size (fun _=>True) u405000 x405000_1)∧Z0 (w'.heap[gb396]?=some (.cells #[(.slice A0_0 l0_0.length c0_0),(.slice A0_1 l0_1.length c0_1)] 37 (0,0)))∧Z0 (w'.heap[gb397]?=some (.cells #[(.slice none 0 0),(.slice none 0 0)] 37 (0,0)))∧Z0 (w'.heap[gb404]?=some (.cells #[u405000,(.slice none 0 0)] 37 (0,0)))∧Z0 (Below w.heap.size w w'))
  case atStart=>exact ⟨(0),(y401),(.slice Ao10 y401.length co10),zq12,H',⟨Nat.le_refl _⟩,⟨by (with_reducible repeat (first|apply Kd.R_alloc|apply Kd.R_drewN|apply Kd.R_drew));exact Kd.R_mono (Kd.R_far (p:=⟨gb404,1,none⟩) (Kd.R_far (p:=⟨gb404,0,none⟩) (Kd.R_types HO403.out BK404.out zq14) (fun _ hk=>hk.2) (.slice Ao10 y401.length co10)) (fun _ hk=>hk.2) (.slice none 0 0)) (fun _ hk=>trivial)⟩,⟨by (with_reducible repeat (first|refine zm ?_ _|refine zu ?_|refine zl ?_ _));refine zQ ?_ NB396_404.out _;(with_reducible repeat (first|refine zm ?_ _|refine zu ?_|refine zl ?_ _));refine zQ ?_ NB396_404.out _;(with_reducible repeat (first|refine zm ?_ _|refine zu ?_|refine zl ?_ _));exact BK396.out⟩,⟨by (with_reducible repeat (first|refine zm ?_ _|refine zu ?_|refine zl ?_ _));refine zQ ?_ NB397_404.out _;(with_reducible repeat (first|refine zm ?_ _|refine zu ?_|refine zl ?_ _));refine zQ ?_ NB397_404.out _;(with_reducible repeat (first|refine zm ?_ _|refine zu ?_|refine zl ?_ _));exact BK397.out⟩,⟨by (with_reducible repeat (first|refine zm ?_ _|refine zu ?_|refine zl ?_ _));refine zT (cs:= #[.slice Ao10 y401.length co10,.slice none 0 0]) ?_ 1 _ rfl;(with_reducible repeat (first|refine zm ?_ _|refine zu ?_|refine zl ?_ _));refine zT (cs:= #[.slice none 0 0,.slice none 0 0]) ?_ 0 _ rfl;(with_reducible repeat (first|refine zm ?_ _|refine zu ?_|refine zl ?_ _));exact BK404.out⟩,⟨by repeat (first|(with_reducible first|exact HB.out|apply zf|apply zg|apply zj|refine zx ?_ GE396.out|refine zx ?_ GE397.out|refine zx ?_ GE404.out)|exact HB.out)⟩⟩
  case round=>
   clear H'
   try clear c2
   try clear hcz14_0
   try clear hcz14_1
   try clear hcz8_0
   try clear hcz8_1
   try clear hfz14_0
   try clear hfz14_1
   try clear hfz8_0
   try clear hfz8_1
   obtain ⟨x4_1,x405000_1,u405000,rfl,HA,HK1,HO_405000,BK396,BK397,BK404,HB⟩:=hrel
   cases gk with
   |zero=>exact absurd HA.out (by simp [spec_SyncDisk.l0])
   |succ k1=>
    have H:=HA.out
    clear HA
    simp only [spec_SyncDisk.l0] at H
    by_cases c15:x4_1<(l0_1.length:Int)
    ·rw [if_pos c15] at H
     have c15b0:decide (x4_1<(l0_1.length:Int))=true:=decide_eq_true c15
     clear c15
     by_cases c16:0≤x4_1
     ·rw [if_pos c16] at H
      have c16b0:decide (0≤x4_1)=true:=decide_eq_true c16
      clear c16
      replace H:=Option.bind_eq_some_iff.mp H
      obtain ⟨t406,A170,H⟩:=H
      replace H:(if t406=true then (if 0≤((zy l0_1 x4_1).f0) then (if ((zy l0_1 x4_1).f0)<(x405000_1.length:Int) then (spec_SyncDisk.l0 k1 (wrap64 (x4_1+1)) l0_0 l0_1 (x405000_1.set (((zy l0_1 x4_1).f0):Int).toNat ((zy l0_1 x4_1).f1))) else (none)) else (none)) else (spec_SyncDisk.l0 k1 (wrap64 (x4_1+1)) l0_0 l0_1 x405000_1))=some (r1,r2):=H
      have A17:=zz A170
      clear A170
      by_cases c18:t406=true
      ·subst c18
       have H1:(if 0≤((zy l0_1 x4_1).f0) then (if ((zy l0_1 x4_1).f0)<(x405000_1.length:Int) then (spec_SyncDisk.l0 k1 (wrap64 (x4_1+1)) l0_0 l0_1 (x405000_1.set (((zy l0_1 x4_1).f0):Int).toNat ((zy l0_1 x4_1).f1))) else (none)) else (none))=some (r1,r2):=by rw [if_pos rfl] at H;exact H
       clear H
       have H:=H1
       clear H1
       by_cases c19:0≤((zy l0_1 x4_1).f0)
       ·rw [if_pos c19] at H
        have c19b0:decide (0≤((zy l0_1 x4_1).f0))=true:=decide_eq_true c19
        clear c19
        by_cases c20:((zy l0_1 x4_1).f0)<(x405000_1.length:Int)
        ·rw [if_pos c20] at H
         have c20b0:decide (((zy l0_1 x4_1).f0)<(x405000_1.length:Int))=true:=decide_eq_true c20
         clear c20
         obtain ⟨y409,hy409⟩:∃y_:List ByteArray,y_=(x405000_1.set (((zy l0_1 x4_1).f0):Int).toNat ((zy l0_1 x4_1).f1)):=⟨_,rfl⟩
         replace H:(spec_SyncDisk.l0 k1 (wrap64 (x4_1+1)) l0_0 l0_1 y409)=some (r1,r2):=by first|(rw [hy409];with_reducible exact H)|(have H2_:=(Option.bind_some _ _).symm.trans H;rw [hy409];with_reducible exact H2_)|(have H2_:=(Option.bind_some _ _).symm.trans H;with_reducible exact H2_)|with_reducible exact H|(rw [hy409];exact H)|exact H
         have Ny409:=zz hy409
         clear hy409
         have H':=zz H
         clear H
         have hnb22:=NB396_397.out
         have hnc22:=NB397_396.out
         have hnb23:=NB396_404.out
         have hnc23:=NB404_396.out
         have hcz24_0:wr.cell? ⟨gb396,0,none⟩=some (.slice A0_0 l0_0.length c0_0):=(zd BK396.out 0).trans rfl
         have hcz24_1:wr.cell? ⟨gb396,1,none⟩=some (.slice A0_1 l0_1.length c0_1):=(zd BK396.out 1).trans rfl
         have hfz24_0:=ze BK396.out 0
         have hfz24_1:=ze BK396.out 1
         try go_wp2
         have n0_:=zz (Kd.R_drew HO_405000.out)
         have n1_:=zz (zu BK396.out)
         have n2_:=zz (zu BK397.out)
         have n3_:=zz (zu BK404.out)
         have n4_:=zz (zj HB.out)
         clear HO_405000
         clear BK396
         clear BK397
         clear BK404
         clear HB
         have HO_405000:=n0_
         have BK396:=n1_
         have BK397:=n2_
         have BK404:=n3_
         have HB:=n4_
         clear n0_ n1_ n2_ n3_ n4_
         have p405:0≤(x4_1:Int):=of_decide_eq_true zq13
         have q405:x4_1<(l0_1.length:Int):=of_decide_eq_true zq13
         obtain ⟨ad405,e405,hx405_0,hx405_1⟩:=zza HR0_1.out x4_1 p405 q405
         have hw405_1:=hx405_1
         have hw405_0:=hx405_0
         cases e405
         replace hx405_0:=(HB.out.cell (World.block_lt_of_cell? w _ hx405_0)).trans hx405_0
         replace hx405_1:=(HB.out.cell (World.block_lt_of_cell? w _ hx405_1)).trans hx405_1
         replace p405:=eq_true p405
         replace q405:=eq_true q405
         refine start_ (n:=11) (S:=fun w'=>w'.cell? ⟨gb396,0,none⟩=some (.slice A0_0 l0_0.length c0_0)∧w'.cell? ⟨gb396,1,none⟩=some (.slice (some ad405) l0_1.length c0_1)∧w'.cell? (ad405.add ((x4_1).toNat*2))=some (.int .i64 ((zy l0_1 x4_1).f0))∧w'.cell? ⟨(ad405.add ((x4_1).toNat*2)).block,(ad405.add ((x4_1).toNat*2)).off+1,none⟩=some (.string ((zy l0_1 x4_1).f1))) (ds:=[]) #[false,false,false,false,false,false,false,false,false,false,false] zq7 rfl rfl ⟨(zd BK396.out 0).trans rfl,(zd BK396.out 1).trans rfl,((HB.out.cell (World.block_lt_of_cell? w _ hw405_0)).trans hw405_0),((HB.out.cell (World.block_lt_of_cell? w _ hw405_1)).trans hw405_1)⟩ (fun hHeld=> ?_);refine zXa spec_SyncDisk.tab5 spec_SyncDisk.bits5 (fun HT_ HW_=> ?_)
         generalize wr.drew=w25 at HO_405000 BK396 BK397 BK404 HB hx405_0 hx405_1 hHeld ⊢
         refine zea (i:=0) (N:=some 17) (v:= ?_) (a':= ?_) #[true,false,false,false,false,false,false,false,false,false,false] rfl rfl (zU HT_.out zq7) (fun _ _ _ h=>h) (Or.inl ⟨by rfl,?_⟩) ?_ ?_
         rotate_left
         ·intro w'
          go_simp
          with_reducible rfl
         rotate_left
         ·simp only [Act.put,List.setIfInBounds_toArray,List.set_cons_zero,List.set_cons_succ,zr,zD]
          rfl
         refine zea (i:=2) (N:=some 19) (v:= ?_) (a':= ?_) #[true,false,true,false,false,false,false,false,false,false,false] rfl rfl (zU HT_.out zq7) (fun _ _ _ h=>h) (Or.inl ⟨by rfl,?_⟩) ?_ ?_
         rotate_left
         ·intro w'
          go_simp
          with_reducible rfl
         rotate_left
         ·simp only [Act.put,List.setIfInBounds_toArray,List.set_cons_zero,List.set_cons_succ,zr,zD]
          rfl
         refine zea (i:=6) (N:=some 23) (v:= ?_) (a':= ?_) #[true,false,true,false,false,false,true,false,false,false,false] rfl rfl (zU HT_.out zq7) (fun _ _ _ h=>h) (Or.inl ⟨by rfl,?_⟩) ?_ ?_
         rotate_left
         ·intro w'
          go_simp
          with_reducible rfl
         rotate_left
         ·simp only [Act.put,List.setIfInBounds_toArray,List.set_cons_zero,List.set_cons_succ,zr,zD]
          rfl
         refine take_ (i:=1) (N:=some 18) (v:= ?_) (a':= ?_) #[true,true,true,false,false,false,true,false,false,false,false] rfl rfl (zfa HT_.out HW_.out zq7) (fun _ _ _ h=>h) (Or.inl ⟨by rfl,?_⟩) hHeld ?_ ?_
         rotate_left
         ·rintro w' ⟨s0,s1,s2,s3⟩
          go_simp
          with_reducible rfl
         rotate_left
         ·simp only [Act.put,List.setIfInBounds_toArray,List.set_cons_zero,List.set_cons_succ,zr,zD]
          rfl
         refine zea (i:=3) (N:=some 20) (v:= ?_) (a':= ?_) #[true,true,true,true,false,false,true,false,false,false,false] rfl rfl (zU HT_.out zq7) (fun _ _ _ h=>h) (Or.inl ⟨by rfl,?_⟩) ?_ ?_
         rotate_left
         ·intro w'
          go_simp
          with_reducible rfl
         rotate_left
         ·simp only [Act.put,List.setIfInBounds_toArray,List.set_cons_zero,List.set_cons_succ,zr,zD]
          rfl
         refine zea (i:=4) (N:=some 21) (v:= ?_) (a':= ?_) #[true,true,true,true,true,false,true,false,false,false,false] rfl rfl (zU HT_.out zq7) (fun _ _ _ h=>h) (Or.inl ⟨by rfl,?_⟩) ?_ ?_
         rotate_left
         ·intro w'
          go_simp
          with_reducible rfl
         rotate_left
         ·simp only [Act.put,List.setIfInBounds_toArray,List.set_cons_zero,List.set_cons_succ,zr,zD]
          rfl
         refine take_ (i:=5) (N:=some 22) (v:= ?_) (a':= ?_) #[true,true,true,true,true,true,true,false,false,false,false] rfl rfl (zfa HT_.out HW_.out zq7) (fun _ _ _ h=>h) (Or.inl ⟨by rfl,?_⟩) hHeld ?_ ?_
         rotate_left
         ·rintro w' ⟨s0,s1,s2,s3⟩
          go_simp
          with_reducible rfl
         rotate_left
         ·simp only [Act.put,List.setIfInBounds_toArray,List.set_cons_zero,List.set_cons_succ,zr,zD]
          rfl
         refine take_ (i:=7) (N:=some 24) (v:= ?_) (a':= ?_) #[true,true,true,true,true,true,true,true,false,false,false] rfl rfl (zfa HT_.out HW_.out zq7) (fun _ _ _ h=>h) (Or.inl ⟨by rfl,?_⟩) hHeld ?_ ?_
         rotate_left
         ·rintro w' ⟨s0,s1,s2,s3⟩
          go_simp
          with_reducible rfl
         rotate_left
         ·simp only [Act.put,List.setIfInBounds_toArray,List.set_cons_zero,List.set_cons_succ,zr,zD]
          rfl
         refine zea (i:=8) (N:=some 25) (v:= ?_) (a':= ?_) #[true,true,true,true,true,true,true,true,true,false,false] rfl rfl (zU HT_.out zq7) (fun _ _ _ h=>h) (Or.inl ⟨by rfl,?_⟩) ?_ ?_
         rotate_left
         ·intro w'
          go_simp
          with_reducible rfl
         rotate_left
         ·simp only [Act.put,List.setIfInBounds_toArray,List.set_cons_zero,List.set_cons_succ,zr,zD]
          rfl
         refine zea (i:=9) (N:=some 26) (v:= ?_) (a':= ?_) #[true,true,true,true,true,true,true,true,true,true,false] rfl rfl (zU HT_.out zq7) (fun _ _ _ h=>h) (Or.inl ⟨by rfl,?_⟩) ?_ ?_
         rotate_left
         ·intro w'
          go_simp
          with_reducible rfl
         rotate_left
         ·simp only [Act.put,List.setIfInBounds_toArray,List.set_cons_zero,List.set_cons_succ,zr,zD]
          rfl
         refine one_ (i:=10) (N:=some 27) #[true,true,true,true,true,true,true,true,true,true,true] rfl rfl (zJa HT_.out zq7) zq14 (fun K hK=> ?_)
         refine goes_ Tryz.func77 zq7 rfl #[.int .i64 ((zy l0_1 x4_1).f0),.int .i64 0,.int .i64 (wrap64 ((l0_0.length:Int)-1))] zq15 rfl rfl zq4 ?_
         with_reducible refine (spec_l01In.calls ((zy l0_1 x4_1).f0) 0 (wrap64 ((l0_0.length:Int)-1)) true _ A17.out).mono ?_
         rintro e w' ⟨rfl,⟨nd,rfl⟩⟩
         refine ⟨_,rfl,?_⟩
         refine hK.out _ _ ⟨(zd BK396.out 0).trans rfl,(zd BK396.out 1).trans rfl,((HB.out.cell (World.block_lt_of_cell? w _ hw405_0)).trans hw405_0),((HB.out.cell (World.block_lt_of_cell? w _ hw405_1)).trans hw405_1)⟩ (fun hHeld=> ?_)
         clear hK K
         refine zdb (a':= ?_) ?_ ?_
         rotate_left
         ·show Act.put _ (some 27) _=_
          simp only [Act.put,List.setIfInBounds_toArray,List.set_cons_zero,List.set_cons_succ,zr,zD]
          rfl
         refine done_ (zIb HT_.out zq7) ?_
         try go_wp2
         (try (rw [drewN_self w25];generalize hq_:World.drewN w25 _=w25;have n0_:Z0 (Kd.R Kd.string 9 w25 w.heap.size (fun _=>True) u405000 x405000_1):=⟨by rw [←hq_];exact (zq11 HO_405000.out)⟩;have n1_:Z0 (w25.heap[gb396]?=some (.cells #[.slice A0_0 l0_0.length c0_0,.slice (some ad405) l0_1.length c0_1] 37 (0,0))):=⟨by rw [←hq_];exact (zq0 BK396.out)⟩;have n2_:Z0 (w25.heap[gb397]?=some (.cells #[.slice none 0 0,.slice none 0 0] 37 (0,0))):=⟨by rw [←hq_];exact (zq0 BK397.out)⟩;have n3_:Z0 (w25.heap[gb404]?=some (.cells #[u405000,.slice none 0 0] 37 (0,0))):=⟨by rw [←hq_];exact (zq0 BK404.out)⟩;have n4_:Z0 (Below w.heap.size w w25):=⟨by rw [←hq_];exact (zq9 GE396.out GE397.out GE404.out)⟩;clear HO_405000 BK396 BK397 BK404 HB hq_;have HO_405000:=n0_;have BK396:=n1_;have BK397:=n2_;have BK404:=n3_;have HB:=n4_;clear n0_ n1_ n2_ n3_ n4_))
         have n0_:=zz (Kd.R_drew HO_405000.out)
         have n1_:=zz (zu BK396.out)
         have n2_:=zz (zu BK397.out)
         have n3_:=zz (zu BK404.out)
         have n4_:=zz (zj HB.out)
         clear HO_405000
         clear BK396
         clear BK397
         clear BK404
         clear HB
         have HO_405000:=n0_
         have BK396:=n1_
         have BK397:=n2_
         have BK404:=n3_
         have HB:=n4_
         clear n0_ n1_ n2_ n3_ n4_
         have p407:0≤(x4_1:Int):=of_decide_eq_true zq13
         have q407:x4_1<(l0_1.length:Int):=of_decide_eq_true zq13
         obtain ⟨ad407,e407,hx407_0,hx407_1⟩:=zza HR0_1.out x4_1 p407 q407
         have hw407_1:=hx407_1
         have hw407_0:=hx407_0
         obtain rfl:ad405=ad407:=(by injection e407)
         replace hx407_0:=(HB.out.cell (World.block_lt_of_cell? w _ hx407_0)).trans hx407_0
         replace hx407_1:=(HB.out.cell (World.block_lt_of_cell? w _ hx407_1)).trans hx407_1
         replace p407:=eq_true p407
         replace q407:=eq_true q407
         have p408:0≤(x4_1:Int):=of_decide_eq_true zq13
         have q408:x4_1<(l0_1.length:Int):=of_decide_eq_true zq13
         obtain ⟨ad408,e408,hx408_0,hx408_1⟩:=zza HR0_1.out x4_1 p408 q408
         have hw408_1:=hx408_1
         have hw408_0:=hx408_0
         obtain rfl:ad405=ad408:=(by injection e408)
         replace hx408_0:=(HB.out.cell (World.block_lt_of_cell? w _ hx408_0)).trans hx408_0
         replace hx408_1:=(HB.out.cell (World.block_lt_of_cell? w _ hx408_1)).trans hx408_1
         replace p408:=eq_true p408
         replace q408:=eq_true q408
         have p21:0≤(((zy l0_1 x4_1).f0):Int):=of_decide_eq_true zq13
         have q21:(((zy l0_1 x4_1).f0):Int)<((x405000_1.length:Int):Int):=of_decide_eq_true zq13
         obtain ⟨go21,co21,eo21,gb21,gl21,cl21,HG21⟩:=Kd.R_form HO_405000.out zq5
         (first|cases eo21|(injection eo21 with ea_ en_ ec_;(first|subst ea_|(injection ea_ with ea_;subst ea_));subst ec_;clear en_))
         have GB21:=zz gb21
         have GG21:=zz HG21
         clear gb21 gl21 HG21
         obtain ⟨hx21_0,hf21_0⟩:=Kd.R_celln (⟨#[]⟩:ByteArray) HO_405000.out (((zy l0_1 x4_1).f0):Int) p21 q21
         replace p21:=eq_true p21
         replace q21:=eq_true q21
         have HP27:=Kd.R_putn HO_405000.out (((zy l0_1 x4_1).f0):Int) ((zy l0_1 x4_1).f1)
         rw [←Ny409.out] at HP27
         have HQ27:=zz HP27
         clear HP27
         refine start_ (n:=16) (S:=fun w'=>w'.cell? ⟨gb404,0,none⟩=some (.slice (some ⟨go21,0,none⟩) x405000_1.length co21)∧w'.cell? ⟨gb404,1,none⟩=some (.slice none 0 0)∧w'.cell? ⟨gb396,0,none⟩=some (.slice A0_0 l0_0.length c0_0)∧w'.cell? ⟨gb396,1,none⟩=some (.slice (some ad405) l0_1.length c0_1)∧w'.cell? (ad405.add ((x4_1).toNat*2))=some (.int .i64 ((zy l0_1 x4_1).f0))∧w'.cell? ⟨(ad405.add ((x4_1).toNat*2)).block,(ad405.add ((x4_1).toNat*2)).off+1,none⟩=some (.string ((zy l0_1 x4_1).f1))∧w'.cell? (ad405.add ((x4_1).toNat*2))=some (.int .i64 ((zy l0_1 x4_1).f0))∧w'.cell? ⟨(ad405.add ((x4_1).toNat*2)).block,(ad405.add ((x4_1).toNat*2)).off+1,none⟩=some (.string ((zy l0_1 x4_1).f1))) (ds:=[15]) #[false,false,false,false,false,false,false,false,false,false,false,false,false,false,false,false] zq7 rfl rfl ⟨(zd BK404.out 0).trans rfl,(zd BK404.out 1).trans rfl,(zd BK396.out 0).trans rfl,(zd BK396.out 1).trans rfl,((HB.out.cell (World.block_lt_of_cell? w _ hw407_0)).trans hw407_0),((HB.out.cell (World.block_lt_of_cell? w _ hw407_1)).trans hw407_1),((HB.out.cell (World.block_lt_of_cell? w _ hw408_0)).trans hw408_0),((HB.out.cell (World.block_lt_of_cell? w _ hw408_1)).trans hw408_1)⟩ (fun hHeld=> ?_);refine zXa spec_SyncDisk.tab6 spec_SyncDisk.bits6 (fun HT_ HW_=> ?_)
         generalize w25.drew=w26 at HO_405000 BK396 BK397 BK404 HB GG21 HQ27 hf21_0 hx21_0 hx407_0 hx407_1 hx408_0 hx408_1 hHeld ⊢
         refine zea (i:=0) (N:=some 28) (v:= ?_) (a':= ?_) #[true,false,false,false,false,false,false,false,false,false,false,false,false,false,false,false] rfl rfl (zU HT_.out zq7) (fun _ _ _ h=>h) (Or.inl ⟨by rfl,?_⟩) ?_ ?_
         rotate_left
         ·intro w'
          go_simp
          with_reducible rfl
         rotate_left
         ·simp only [Act.put,List.setIfInBounds_toArray,List.set_cons_zero,List.set_cons_succ,zr,zD]
          rfl
         refine zea (i:=2) (N:=some 30) (v:= ?_) (a':= ?_) #[true,false,true,false,false,false,false,false,false,false,false,false,false,false,false,false] rfl rfl (zU HT_.out zq7) (fun _ _ _ h=>h) (Or.inl ⟨by rfl,?_⟩) ?_ ?_
         rotate_left
         ·intro w'
          go_simp
          with_reducible rfl
         rotate_left
         ·simp only [Act.put,List.setIfInBounds_toArray,List.set_cons_zero,List.set_cons_succ,zr,zD]
          rfl
         refine zea (i:=4) (N:=some 32) (v:= ?_) (a':= ?_) #[true,false,true,false,true,false,false,false,false,false,false,false,false,false,false,false] rfl rfl (zU HT_.out zq7) (fun _ _ _ h=>h) (Or.inl ⟨by rfl,?_⟩) ?_ ?_
         rotate_left
         ·intro w'
          go_simp
          with_reducible rfl
         rotate_left
         ·simp only [Act.put,List.setIfInBounds_toArray,List.set_cons_zero,List.set_cons_succ,zr,zD]
          rfl
         refine zea (i:=8) (N:=some 36) (v:= ?_) (a':= ?_) #[true,false,true,false,true,false,false,false,true,false,false,false,false,false,false,false] rfl rfl (zU HT_.out zq7) (fun _ _ _ h=>h) (Or.inl ⟨by rfl,?_⟩) ?_ ?_
         rotate_left
         ·intro w'
          go_simp
          with_reducible rfl
         rotate_left
         ·simp only [Act.put,List.setIfInBounds_toArray,List.set_cons_zero,List.set_cons_succ,zr,zD]
          rfl
         refine zea (i:=10) (N:=some 38) (v:= ?_) (a':= ?_) #[true,false,true,false,true,false,false,false,true,false,true,false,false,false,false,false] rfl rfl (zU HT_.out zq7) (fun _ _ _ h=>h) (Or.inl ⟨by rfl,?_⟩) ?_ ?_
         rotate_left
         ·intro w'
          go_simp
          with_reducible rfl
         rotate_left
         ·simp only [Act.put,List.setIfInBounds_toArray,List.set_cons_zero,List.set_cons_succ,zr,zD]
          rfl
         refine take_ (i:=1) (N:=some 29) (v:= ?_) (a':= ?_) #[true,true,true,false,true,false,false,false,true,false,true,false,false,false,false,false] rfl rfl (zfa HT_.out HW_.out zq7) (fun _ _ _ h=>h) (Or.inl ⟨by rfl,?_⟩) hHeld ?_ ?_
         rotate_left
         ·rintro w' ⟨s0,s1,s2,s3,s4,s5,s6,s7⟩
          go_simp
          with_reducible rfl
         rotate_left
         ·simp only [Act.put,List.setIfInBounds_toArray,List.set_cons_zero,List.set_cons_succ,zr,zD]
          rfl
         refine take_ (i:=3) (N:=some 31) (v:= ?_) (a':= ?_) #[true,true,true,true,true,false,false,false,true,false,true,false,false,false,false,false] rfl rfl (zfa HT_.out HW_.out zq7) (fun _ _ _ h=>h) (Or.inl ⟨by rfl,?_⟩) hHeld ?_ ?_
         rotate_left
         ·rintro w' ⟨s0,s1,s2,s3,s4,s5,s6,s7⟩
          go_simp
          with_reducible rfl
         rotate_left
         ·simp only [Act.put,List.setIfInBounds_toArray,List.set_cons_zero,List.set_cons_succ,zr,zD]
          rfl
         refine zea (i:=5) (N:=some 33) (v:= ?_) (a':= ?_) #[true,true,true,true,true,true,false,false,true,false,true,false,false,false,false,false] rfl rfl (zU HT_.out zq7) (fun _ _ _ h=>h) (Or.inl ⟨by rfl,?_⟩) ?_ ?_
         rotate_left
         ·intro w'
          go_simp
          with_reducible rfl
         rotate_left
         ·simp only [Act.put,List.setIfInBounds_toArray,List.set_cons_zero,List.set_cons_succ,zr,zD]
          rfl
         refine zea (i:=6) (N:=some 34) (v:= ?_) (a':= ?_) #[true,true,true,true,true,true,true,false,true,false,true,false,false,false,false,false] rfl rfl (zU HT_.out zq7) (fun _ _ _ h=>h) (Or.inl ⟨by rfl,?_⟩) ?_ ?_
         rotate_left
         ·intro w'
          go_simp
          with_reducible rfl
         rotate_left
         ·simp only [Act.put,List.setIfInBounds_toArray,List.set_cons_zero,List.set_cons_succ,zr,zD]
          rfl
         refine take_ (i:=7) (N:=some 35) (v:= ?_) (a':= ?_) #[true,true,true,true,true,true,true,true,true,false,true,false,false,false,false,false] rfl rfl (zfa HT_.out HW_.out zq7) (fun _ _ _ h=>h) (Or.inl ⟨by rfl,?_⟩) hHeld ?_ ?_
         rotate_left
         ·rintro w' ⟨s0,s1,s2,s3,s4,s5,s6,s7⟩
          go_simp
          with_reducible rfl
         rotate_left
         ·simp only [Act.put,List.setIfInBounds_toArray,List.set_cons_zero,List.set_cons_succ,zr,zD]
          rfl
         refine take_ (i:=9) (N:=some 37) (v:= ?_) (a':= ?_) #[true,true,true,true,true,true,true,true,true,true,true,false,false,false,false,false] rfl rfl (zfa HT_.out HW_.out zq7) (fun _ _ _ h=>h) (Or.inl ⟨by rfl,?_⟩) hHeld ?_ ?_
         rotate_left
         ·rintro w' ⟨s0,s1,s2,s3,s4,s5,s6,s7⟩
          go_simp
          with_reducible rfl
         rotate_left
         ·simp only [Act.put,List.setIfInBounds_toArray,List.set_cons_zero,List.set_cons_succ,zr,zD]
          rfl
         refine zea (i:=11) (N:=some 39) (v:= ?_) (a':= ?_) #[true,true,true,true,true,true,true,true,true,true,true,true,false,false,false,false] rfl rfl (zU HT_.out zq7) (fun _ _ _ h=>h) (Or.inl ⟨by rfl,?_⟩) ?_ ?_
         rotate_left
         ·intro w'
          go_simp
          with_reducible rfl
         rotate_left
         ·simp only [Act.put,List.setIfInBounds_toArray,List.set_cons_zero,List.set_cons_succ,zr,zD]
          rfl
         refine zea (i:=12) (N:=some 40) (v:= ?_) (a':= ?_) #[true,true,true,true,true,true,true,true,true,true,true,true,true,false,false,false] rfl rfl (zU HT_.out zq7) (fun _ _ _ h=>h) (Or.inl ⟨by rfl,?_⟩) ?_ ?_
         rotate_left
         ·intro w'
          go_simp
          with_reducible rfl
         rotate_left
         ·simp only [Act.put,List.setIfInBounds_toArray,List.set_cons_zero,List.set_cons_succ,zr,zD]
          rfl
         refine take_ (i:=13) (N:=some 41) (v:= ?_) (a':= ?_) #[true,true,true,true,true,true,true,true,true,true,true,true,true,true,false,false] rfl rfl (zfa HT_.out HW_.out zq7) (fun _ _ _ h=>h) (Or.inl ⟨by rfl,?_⟩) hHeld ?_ ?_
         rotate_left
         ·rintro w' ⟨s0,s1,s2,s3,s4,s5,s6,s7⟩
          go_simp
          with_reducible rfl
         rotate_left
         ·simp only [Act.put,List.setIfInBounds_toArray,List.set_cons_zero,List.set_cons_succ,zr,zD]
          rfl
         refine zea (i:=14) (N:=some 42) (v:= ?_) (a':= ?_) #[true,true,true,true,true,true,true,true,true,true,true,true,true,true,true,false] rfl rfl (zU HT_.out zq7) (fun _ _ _ h=>h) (Or.inl ⟨by rfl,?_⟩) ?_ ?_
         rotate_left
         ·intro w'
          go_simp
          with_reducible rfl
         rotate_left
         ·simp only [Act.put,List.setIfInBounds_toArray,List.set_cons_zero,List.set_cons_succ,zr,zD]
          rfl
         refine last_ (i:=15) (N:=none) #[true,true,true,true,true,true,true,true,true,true,true,true,true,true,true,true] rfl rfl (zJa HT_.out zq7) zq14 (fun K hK=> ?_)
         refine skip_ (w1:= ?_) zq15 rfl ?_ ?_
         rotate_left
         ·go_simp
          rfl
         refine hK.out _ _ ?_
         clear hK K
         refine done_ (zIb HT_.out zq7) ?_
         try go_wp2
         go_roundg k1
         case measure=>have:=HK1.out;omega
         case rel=>exact ⟨(wrap64 (x4_1+1)),(y409),(.slice (some ⟨go21,0,none⟩) x405000_1.length co21),zq12,H',⟨by have:=HK1.out;omega⟩,⟨by (with_reducible repeat (first|apply Kd.R_alloc|apply Kd.R_drewN|apply Kd.R_drew));exact HQ27.out⟩,⟨by (with_reducible repeat (first|refine zm ?_ _|refine zu ?_|refine zl ?_ _));refine zQ ?_ (by have h_:=Kd.R_ne HO_405000.out BK396.out zq14;intro e_;exact h_ (by rw [e_];rfl)) _;(with_reducible repeat (first|refine zm ?_ _|refine zu ?_|refine zl ?_ _));exact BK396.out⟩,⟨by (with_reducible repeat (first|refine zm ?_ _|refine zu ?_|refine zl ?_ _));refine zQ ?_ (by have h_:=Kd.R_ne HO_405000.out BK397.out zq14;intro e_;exact h_ (by rw [e_];rfl)) _;(with_reducible repeat (first|refine zm ?_ _|refine zu ?_|refine zl ?_ _));exact BK397.out⟩,⟨by (with_reducible repeat (first|refine zm ?_ _|refine zu ?_|refine zl ?_ _));refine zQ ?_ (by have h_:=Kd.R_ne HO_405000.out BK404.out zq14;intro e_;exact h_ (by rw [e_];rfl)) _;(with_reducible repeat (first|refine zm ?_ _|refine zu ?_|refine zl ?_ _));exact BK404.out⟩,⟨by repeat (first|(with_reducible first|exact HB.out|apply zf|apply zg|apply zj|refine zx ?_ GB21.out|refine zx ?_ GE396.out|refine zx ?_ GE397.out|refine zx ?_ GE404.out)|exact HB.out)⟩⟩
        ·rw [if_neg c20] at H
         exact absurd H zq16
       ·rw [if_neg c19] at H
        exact absurd H zq16
      ·replace c18:=Bool.eq_false_iff.mpr c18
       subst c18
       have H1:(spec_SyncDisk.l0 k1 (wrap64 (x4_1+1)) l0_0 l0_1 x405000_1)=some (r1,r2):=by rw [if_neg (show ¬(false=true) by decide)] at H;exact H
       clear H
       have H:=H1
       clear H1
       have H':=zz H
       clear H
       have hnb28:=NB396_397.out
       have hnc28:=NB397_396.out
       have hnb29:=NB396_404.out
       have hnc29:=NB404_396.out
       have hcz30_0:wr.cell? ⟨gb396,0,none⟩=some (.slice A0_0 l0_0.length c0_0):=(zd BK396.out 0).trans rfl
       have hcz30_1:wr.cell? ⟨gb396,1,none⟩=some (.slice A0_1 l0_1.length c0_1):=(zd BK396.out 1).trans rfl
       have hfz30_0:=ze BK396.out 0
       have hfz30_1:=ze BK396.out 1
       try go_wp2
       have n0_:=zz (Kd.R_drew HO_405000.out)
       have n1_:=zz (zu BK396.out)
       have n2_:=zz (zu BK397.out)
       have n3_:=zz (zu BK404.out)
       have n4_:=zz (zj HB.out)
       clear HO_405000
       clear BK396
       clear BK397
       clear BK404
       clear HB
       have HO_405000:=n0_
       have BK396:=n1_
       have BK397:=n2_
       have BK404:=n3_
       have HB:=n4_
       clear n0_ n1_ n2_ n3_ n4_
       have p405:0≤(x4_1:Int):=of_decide_eq_true zq13
       have q405:x4_1<(l0_1.length:Int):=of_decide_eq_true zq13
       obtain ⟨ad405,e405,hx405_0,hx405_1⟩:=zza HR0_1.out x4_1 p405 q405
       have hw405_1:=hx405_1
       have hw405_0:=hx405_0
       cases e405
       replace hx405_0:=(HB.out.cell (World.block_lt_of_cell? w _ hx405_0)).trans hx405_0
       replace hx405_1:=(HB.out.cell (World.block_lt_of_cell? w _ hx405_1)).trans hx405_1
       replace p405:=eq_true p405
       replace q405:=eq_true q405
       refine start_ (n:=11) (S:=fun w'=>w'.cell? ⟨gb396,0,none⟩=some (.slice A0_0 l0_0.length c0_0)∧w'.cell? ⟨gb396,1,none⟩=some (.slice (some ad405) l0_1.length c0_1)∧w'.cell? (ad405.add ((x4_1).toNat*2))=some (.int .i64 ((zy l0_1 x4_1).f0))∧w'.cell? ⟨(ad405.add ((x4_1).toNat*2)).block,(ad405.add ((x4_1).toNat*2)).off+1,none⟩=some (.string ((zy l0_1 x4_1).f1))) (ds:=[]) #[false,false,false,false,false,false,false,false,false,false,false] zq7 rfl rfl ⟨(zd BK396.out 0).trans rfl,(zd BK396.out 1).trans rfl,((HB.out.cell (World.block_lt_of_cell? w _ hw405_0)).trans hw405_0),((HB.out.cell (World.block_lt_of_cell? w _ hw405_1)).trans hw405_1)⟩ (fun hHeld=> ?_);refine zXa spec_SyncDisk.tab5 spec_SyncDisk.bits5 (fun HT_ HW_=> ?_)
       generalize wr.drew=w31 at HO_405000 BK396 BK397 BK404 HB hx405_0 hx405_1 hHeld ⊢
       refine zea (i:=0) (N:=some 17) (v:= ?_) (a':= ?_) #[true,false,false,false,false,false,false,false,false,false,false] rfl rfl (zU HT_.out zq7) (fun _ _ _ h=>h) (Or.inl ⟨by rfl,?_⟩) ?_ ?_
       rotate_left
       ·intro w'
        go_simp
        with_reducible rfl
       rotate_left
       ·simp only [Act.put,List.setIfInBounds_toArray,List.set_cons_zero,List.set_cons_succ,zr,zD]
        rfl
       refine zea (i:=2) (N:=some 19) (v:= ?_) (a':= ?_) #[true,false,true,false,false,false,false,false,false,false,false] rfl rfl (zU HT_.out zq7) (fun _ _ _ h=>h) (Or.inl ⟨by rfl,?_⟩) ?_ ?_
       rotate_left
       ·intro w'
        go_simp
        with_reducible rfl
       rotate_left
       ·simp only [Act.put,List.setIfInBounds_toArray,List.set_cons_zero,List.set_cons_succ,zr,zD]
        rfl
       refine zea (i:=6) (N:=some 23) (v:= ?_) (a':= ?_) #[true,false,true,false,false,false,true,false,false,false,false] rfl rfl (zU HT_.out zq7) (fun _ _ _ h=>h) (Or.inl ⟨by rfl,?_⟩) ?_ ?_
       rotate_left
       ·intro w'
        go_simp
        with_reducible rfl
       rotate_left
       ·simp only [Act.put,List.setIfInBounds_toArray,List.set_cons_zero,List.set_cons_succ,zr,zD]
        rfl
       refine take_ (i:=1) (N:=some 18) (v:= ?_) (a':= ?_) #[true,true,true,false,false,false,true,false,false,false,false] rfl rfl (zfa HT_.out HW_.out zq7) (fun _ _ _ h=>h) (Or.inl ⟨by rfl,?_⟩) hHeld ?_ ?_
       rotate_left
       ·rintro w' ⟨s0,s1,s2,s3⟩
        go_simp
        with_reducible rfl
       rotate_left
       ·simp only [Act.put,List.setIfInBounds_toArray,List.set_cons_zero,List.set_cons_succ,zr,zD]
        rfl
       refine zea (i:=3) (N:=some 20) (v:= ?_) (a':= ?_) #[true,true,true,true,false,false,true,false,false,false,false] rfl rfl (zU HT_.out zq7) (fun _ _ _ h=>h) (Or.inl ⟨by rfl,?_⟩) ?_ ?_
       rotate_left
       ·intro w'
        go_simp
        with_reducible rfl
       rotate_left
       ·simp only [Act.put,List.setIfInBounds_toArray,List.set_cons_zero,List.set_cons_succ,zr,zD]
        rfl
       refine zea (i:=4) (N:=some 21) (v:= ?_) (a':= ?_) #[true,true,true,true,true,false,true,false,false,false,false] rfl rfl (zU HT_.out zq7) (fun _ _ _ h=>h) (Or.inl ⟨by rfl,?_⟩) ?_ ?_
       rotate_left
       ·intro w'
        go_simp
        with_reducible rfl
       rotate_left
       ·simp only [Act.put,List.setIfInBounds_toArray,List.set_cons_zero,List.set_cons_succ,zr,zD]
        rfl
       refine take_ (i:=5) (N:=some 22) (v:= ?_) (a':= ?_) #[true,true,true,true,true,true,true,false,false,false,false] rfl rfl (zfa HT_.out HW_.out zq7) (fun _ _ _ h=>h) (Or.inl ⟨by rfl,?_⟩) hHeld ?_ ?_
       rotate_left
       ·rintro w' ⟨s0,s1,s2,s3⟩
        go_simp
        with_reducible rfl
       rotate_left
       ·simp only [Act.put,List.setIfInBounds_toArray,List.set_cons_zero,List.set_cons_succ,zr,zD]
        rfl
       refine take_ (i:=7) (N:=some 24) (v:= ?_) (a':= ?_) #[true,true,true,true,true,true,true,true,false,false,false] rfl rfl (zfa HT_.out HW_.out zq7) (fun _ _ _ h=>h) (Or.inl ⟨by rfl,?_⟩) hHeld ?_ ?_
       rotate_left
       ·rintro w' ⟨s0,s1,s2,s3⟩
        go_simp
        with_reducible rfl
       rotate_left
       ·simp only [Act.put,List.setIfInBounds_toArray,List.set_cons_zero,List.set_cons_succ,zr,zD]
        rfl
       refine zea (i:=8) (N:=some 25) (v:= ?_) (a':= ?_) #[true,true,true,true,true,true,true,true,true,false,false] rfl rfl (zU HT_.out zq7) (fun _ _ _ h=>h) (Or.inl ⟨by rfl,?_⟩) ?_ ?_
       rotate_left
       ·intro w'
        go_simp
        with_reducible rfl
       rotate_left
       ·simp only [Act.put,List.setIfInBounds_toArray,List.set_cons_zero,List.set_cons_succ,zr,zD]
        rfl
       refine zea (i:=9) (N:=some 26) (v:= ?_) (a':= ?_) #[true,true,true,true,true,true,true,true,true,true,false] rfl rfl (zU HT_.out zq7) (fun _ _ _ h=>h) (Or.inl ⟨by rfl,?_⟩) ?_ ?_
       rotate_left
       ·intro w'
        go_simp
        with_reducible rfl
       rotate_left
       ·simp only [Act.put,List.setIfInBounds_toArray,List.set_cons_zero,List.set_cons_succ,zr,zD]
        rfl
       refine one_ (i:=10) (N:=some 27) #[true,true,true,true,true,true,true,true,true,true,true] rfl rfl (zJa HT_.out zq7) zq14 (fun K hK=> ?_)
       refine goes_ Tryz.func77 zq7 rfl #[.int .i64 ((zy l0_1 x4_1).f0),.int .i64 0,.int .i64 (wrap64 ((l0_0.length:Int)-1))] zq15 rfl rfl zq4 ?_
       with_reducible refine (spec_l01In.calls ((zy l0_1 x4_1).f0) 0 (wrap64 ((l0_0.length:Int)-1)) false _ A17.out).mono ?_
       rintro e w' ⟨rfl,⟨nd,rfl⟩⟩
       refine ⟨_,rfl,?_⟩
       refine hK.out _ _ ⟨(zd BK396.out 0).trans rfl,(zd BK396.out 1).trans rfl,((HB.out.cell (World.block_lt_of_cell? w _ hw405_0)).trans hw405_0),((HB.out.cell (World.block_lt_of_cell? w _ hw405_1)).trans hw405_1)⟩ (fun hHeld=> ?_)
       clear hK K
       refine zdb (a':= ?_) ?_ ?_
       rotate_left
       ·show Act.put _ (some 27) _=_
        simp only [Act.put,List.setIfInBounds_toArray,List.set_cons_zero,List.set_cons_succ,zr,zD]
        rfl
       refine done_ (zIb HT_.out zq7) ?_
       try go_wp2
       go_roundg k1
       case measure=>have:=HK1.out;omega
       case rel=>exact ⟨(wrap64 (x4_1+1)),(x405000_1),(u405000),zq12,H',⟨by have:=HK1.out;omega⟩,⟨by (with_reducible repeat (first|apply Kd.R_alloc|apply Kd.R_drewN|apply Kd.R_drew));exact HO_405000.out⟩,⟨by (with_reducible repeat (first|refine zm ?_ _|refine zu ?_|refine zl ?_ _));exact BK396.out⟩,⟨by (with_reducible repeat (first|refine zm ?_ _|refine zu ?_|refine zl ?_ _));exact BK397.out⟩,⟨by (with_reducible repeat (first|refine zm ?_ _|refine zu ?_|refine zl ?_ _));exact BK404.out⟩,⟨by repeat (first|(with_reducible first|exact HB.out|apply zf|apply zg|apply zj|refine zx ?_ GE396.out|refine zx ?_ GE397.out|refine zx ?_ GE404.out)|exact HB.out)⟩⟩
     ·rw [if_neg c16] at H
      exact absurd H zq16
    ·rw [if_neg c15] at H
     have c15b0:decide (x4_1<(l0_1.length:Int))=false:=decide_eq_false c15
     clear c15
     simp only [Option.some.injEq,Prod.mk.injEq] at H
     obtain ⟨rfl,rfl⟩:=H
     have hnb32:=NB396_397.out
     have hnc32:=NB397_396.out
     have hnb33:=NB396_404.out
     have hnc33:=NB404_396.out
     have hcz34_0:wr.cell? ⟨gb396,0,none⟩=some (.slice A0_0 l0_0.length c0_0):=(zd BK396.out 0).trans rfl
     have hcz34_1:wr.cell? ⟨gb396,1,none⟩=some (.slice A0_1 l0_1.length c0_1):=(zd BK396.out 1).trans rfl
     have hfz34_0:=ze BK396.out 0
     have hfz34_1:=ze BK396.out 1
     have hnb35:=NB404_397.out
     have hnc35:=NB397_404.out
     have hcz36_0:wr.cell? ⟨gb404,0,none⟩=some (u405000):=(zd BK404.out 0).trans rfl
     have hcz36_1:wr.cell? ⟨gb404,1,none⟩=some (.slice none 0 0):=(zd BK404.out 1).trans rfl
     have hfz36_0:=ze BK404.out 0
     have hfz36_1:=ze BK404.out 1
     obtain ⟨Ao37,co37,eo37⟩:=Kd.R_slice HO_405000.out
     subst eo37
     have hcz38_0:wr.cell? ⟨gb397,0,none⟩=some (.slice none 0 0):=(zd BK397.out 0).trans rfl
     have hcz38_1:wr.cell? ⟨gb397,1,none⟩=some (.slice none 0 0):=(zd BK397.out 1).trans rfl
     have hfz38_0:=ze BK397.out 0
     have hfz38_1:=ze BK397.out 1
     go_wp2
     refine bodyPost_ret (results_cell_row rfl _ _ gb397 37 #[.slice Ao37 x405000_1.length co37,.slice none 0 0] (0,0) _ rfl (by (with_reducible repeat (first|refine zm ?_ _|refine zu ?_|refine zl ?_ _));refine zT (cs:= #[.slice Ao37 x405000_1.length co37,.slice none 0 0]) ?_ 1 _ rfl;(with_reducible repeat (first|refine zm ?_ _|refine zu ?_|refine zl ?_ _));refine zT (cs:= #[.slice none 0 0,.slice none 0 0]) ?_ 0 _ rfl;(with_reducible repeat (first|refine zm ?_ _|refine zu ?_|refine zl ?_ _));exact BK397.out) Tryz.underlying37 rfl zq7) rfl ?_
     exact ⟨_,_,by first|rfl|(simp [zw,zv]<;>rfl)|(simp [*,zw,zv]<;>rfl),by (with_reducible repeat (first|apply Kd.R_alloc|apply Kd.R_drewN|apply Kd.R_drew));exact Kd.R_mono (Kd.R_far (p:=⟨gb397,1,none⟩) (Kd.R_far (p:=⟨gb397,0,none⟩) (Kd.R_types HO_405000.out BK397.out zq14) (fun _ hk=>hk.2) (.slice Ao37 x405000_1.length co37)) (fun _ hk=>hk.2) (.slice none 0 0)) (fun _ hk=>trivial),by first|exact Kd.R_nil _ _ _ _ _|exact Kd.N_nil _ _ _ _ _|exact Kd.V_nil _ _ _ _ _|exact Kd.Q_nil _ _ _ _ _|exact Kd.S_nil _ _ _ _ _,by repeat (first|(with_reducible first|exact HB.out|apply zf|apply zg|apply zj|refine zx ?_ GE396.out|refine zx ?_ GE397.out|refine zx ?_ GE404.out)|exact HB.out)⟩
 ·rw [if_neg c2] at H
  exact absurd H zq16
end Go.Proofs.YtonhdiemjgdcnaaGreat.PFnExactGivePage
