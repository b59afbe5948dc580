import Derived.Test.YtonhdiemjgdcnaaGreatCC10
set_option maxHeartbeats 64000000
set_option maxRecDepth 100000
set_option linter.unusedVariables false
set_option linter.unusedSimpArgs false
namespace Go.Proofs.YtonhdiemjgdcnaaGreat.PFnExactGivePage
open Go.RowKit Go.Proofs.YtonhdiemjgdcnaaGreatW.PrintWords Go.Proofs.YtonhdiemjgdcnaaGreatW.PrintLast Go.Proofs.YtonhdiemjgdcnaaGreatW.PrintMore
attribute [local go_sem] zba zga zoa zna zW zV zfa zea
theorem diskOkI_d (k:Nat) (z:(List ByteArray×List S110)) (b:Bool) {cs:List Value} (w:World) (h:kDisk.K w z cs) (hf:impl_DiskOk.f z.1 z.2=some b):Calls Tryz.prog 103 #[.agg cs.toArray] w fun e w'=>e= .returned (.bool b)∧Below w.heap.size w w':=by
 obtain ⟨l0,l1⟩:=z
 obtain ⟨A0,c0,A1,c1,rfl,m0,r0,m1,r1⟩:=zma h
 exact impl_DiskOk.calls A0 c0 l0 A1 c1 l1 b w r0 m0 r1 m1 hf
theorem writeI_no (k:Nat) (l0:List ByteArray) (l1:List S110) (a:Int) (t:ByteArray) {cs:List Value} (w:World) (h:kDisk.K w (l0,l1) cs) (fl:l0.length≤2000000∧l1.length≤2000000) (fd:impl_DiskOk.f l0 l1=some false):
  Calls Tryz.prog 95 #[.agg cs.toArray,.int .i64 a,.string t] w fun e w'=>∃ds:List Value,e= .returned (.tuple #[.agg ds.toArray,.bool false])∧kDisk.M w' w.heap.size (Fr w w') (l0,l1) ds∧Below w.heap.size w w':=by
 have KS0:=h
 obtain ⟨u0,u1,rfl,hU0,hU1⟩:=h
 have hV0:=hU0
 have hV1:=hU1
 obtain ⟨B0,d0,rfl,-,-⟩:=hU0
 obtain ⟨B1,d1,rfl,-,-⟩:=hU1
 obtain ⟨cs,hcs⟩:∃cs:List Value,cs=[.slice B0 l0.length d0]++[.slice B1 l1.length d1]:=⟨_,rfl⟩
 rw [←hcs] at KS0 ⊢
 have Ecs:=zz hcs
 have KS:=zz KS0
 have KW0:=zz (show (Own.srow 9 Kd.string).K w l0 [.slice B0 l0.length d0] from hV0);have KW1:=zz (show (Own.srow 110 k110).K w l1 [.slice B1 l1.length d1] from hV1)
 have Lcs:=zz (show cs.length=2 from Kd.K_len _ KS0)
 have FL:=zz fl;have FD:=zz fd;clear KS0 hV0 hV1 hcs fl fd
 have O:=zz (Nat.le_refl w.heap.size)
 have E:=zz (Env.start w)
 go_enter Tryz.func95,Tryz.ntmps95
 go_wp2_with (first|((with_reducible refine zv (N:=9) rfl ?_);replace O:=zz (And.intro E.out.le O.out);replace E:=zz (E.out.alloc cs 37 (g:=w.heap.size) rfl);replace E:=zz (E.out.alloc [.slice none 0 0,.slice none 0 0] 37 (g:=(w.heap.size+1)) zq15);refine zy rfl 37 _ rfl w.heap.size 0 [] cs [] _ rfl (E.out.box 1 rfl) zq8 (rfl) Tryz.underlying37 rfl zq28 ?_))
 ((with_reducible refine (cloneDisk_c (l0,l1) _ (E.out.K KS.out) FL.out).mono ?_);rintro e w1_ ⟨d2_,rfl,Md2_,hb⟩)
 have q:=E.out.made4 O.out 2 rfl Md2_ hb;clear O E Md2_ hb;obtain ⟨n3_,m4_,Ld2_,Od2_,O,E⟩:=q
 go_wp2_with (first|((with_reducible refine zC (t:=37) (p:=8) rfl ?_);replace O:=zz (And.intro E.out.le O.out);replace E:=zz (E.out.alloc [.slice none 0 0,.slice none 0 0] 37 (g:=w1_.heap.size) rfl);refine zD rfl 37 _ _ rfl rfl w1_.heap.size 0 d2_ [] [.slice none 0 0,.slice none 0 0] [] rfl rfl (E.out.box 0 rfl) zq8 (rfl) zq41 zq33 Od2_.out ?_;intro W5_ hp hn;replace E:=E.out.put2 0 hp hn zq10;clear hp hn)|((with_reducible refine zv (N:=11) rfl ?_);refine zy rfl 37 _ rfl w.heap.size 0 [] cs [] _ rfl (E.out.box 3 rfl) zq8 (rfl) Tryz.underlying37 rfl zq28 ?_))
 ((with_reducible refine (diskOkI_d k (l0,l1) false _ (E.out.K KS.out) FD.out).mono ?_);rintro e w6_ ⟨rfl,hb⟩)
 replace E:=zz (E.out.call hb);clear hb
 go_wp2_with (first|((with_reducible refine zv (N:=31) rfl ?_);refine zy rfl 37 _ rfl w1_.heap.size 0 [] d2_ [] _ rfl (E.out.box 0 rfl) zq8 (rfl) Tryz.underlying37 rfl zq33 ?_)|((with_reducible refine zC (t:=37) (p:=6) rfl ?_);refine zD rfl 37 _ _ rfl rfl (w.heap.size+1) 0 d2_ [] [.slice none 0 0,.slice none 0 0] [] rfl rfl (E.out.box 2 rfl) zq8 (rfl) zq41 zq33 Od2_.out ?_;intro W7_ hp hn;replace E:=E.out.put2 2 hp hn zq10;clear hp hn))
 have BX:=zz (show _=some (Obj.cells (d2_:List Value).toArray 37 (0,0)) from by first|exact (E.out.box 2 rfl)|simpa only [aA,aN,aL] using (E.out.box 2 rfl))
 refine bodyPost_ret (zha (rs:=[.cell 6 37,.tmp 7]) rfl zq15 (.cell (w.heap.size+1) 37 _ _ _ rfl BX.out Tryz.underlying37 rfl (by rw [List.size_toArray,show (d2_:List Value).length=2 from Ld2_.out];kernel_rfl) (.tmp .nil))) rfl ?_
 exact ⟨_,rfl,(zjb (d:=kDisk) (E.out.made 1 rfl) (Nat.le_refl _)),E.out.below⟩
theorem diskOkS_d (k:Nat) (z:(List ByteArray×List S110)) (b:Bool) {cs:List Value} (w:World) (h:kDisk.K w z cs) (hf:spec_DiskOk.f k z.1 z.2=some b):Calls Tryz.prog 83 #[.agg cs.toArray] w fun e w'=>e= .returned (.bool b)∧Below w.heap.size w w':=by
 obtain ⟨l0,l1⟩:=z
 obtain ⟨A0,c0,A1,c1,rfl,m0,r0,m1,r1⟩:=zma h
 exact spec_DiskOk.calls k A0 c0 l0 A1 c1 l1 b w r0 m0 r1 m1 hf
theorem writeS_no (k:Nat) (l0:List ByteArray) (l1:List S110) (a:Int) (t:ByteArray) {cs:List Value} (w:World) (h:kDisk.K w (l0,l1) cs) (fl:l0.length≤2000000∧l1.length≤2000000) (fd:spec_DiskOk.f k l0 l1=some false):
  Calls Tryz.prog 38 #[.agg cs.toArray,.int .i64 a,.string t] w fun e w'=>∃ds:List Value,e= .returned (.tuple #[.agg ds.toArray,.bool false])∧kDisk.M w' w.heap.size (Fr w w') (l0,l1) ds∧Below w.heap.size w w':=by
 have KS0:=h
 obtain ⟨u0,u1,rfl,hU0,hU1⟩:=h
 have hV0:=hU0
 have hV1:=hU1
 obtain ⟨B0,d0,rfl,-,-⟩:=hU0
 obtain ⟨B1,d1,rfl,-,-⟩:=hU1
 obtain ⟨cs,hcs⟩:∃cs:List Value,cs=[.slice B0 l0.length d0]++[.slice B1 l1.length d1]:=⟨_,rfl⟩
 rw [←hcs] at KS0 ⊢
 have Ecs:=zz hcs
 have KS:=zz KS0
 have KW0:=zz (show (Own.srow 9 Kd.string).K w l0 [.slice B0 l0.length d0] from hV0);have KW1:=zz (show (Own.srow 110 k110).K w l1 [.slice B1 l1.length d1] from hV1)
 have Lcs:=zz (show cs.length=2 from Kd.K_len _ KS0)
 have FL:=zz fl;have FD:=zz fd;clear KS0 hV0 hV1 hcs fl fd
 have O:=zz (Nat.le_refl w.heap.size)
 have E:=zz (Env.start w)
 go_enter Tryz.func38,Tryz.ntmps38
 go_wp2_with (first|((with_reducible refine zv (N:=9) rfl ?_);replace O:=zz (And.intro E.out.le O.out);replace E:=zz (E.out.alloc cs 37 (g:=w.heap.size) rfl);replace E:=zz (E.out.alloc [.slice none 0 0,.slice none 0 0] 37 (g:=(w.heap.size+1)) zq15);refine zy rfl 37 _ rfl w.heap.size 0 [] cs [] _ rfl (E.out.box 1 rfl) zq8 (rfl) Tryz.underlying37 rfl zq28 ?_))
 ((with_reducible refine (l03Copy_n l0 l1 _ (E.out.K KS.out) FL.out).mono ?_);rintro e w1_ ⟨d2_,rfl,Md2_,hb⟩)
 have q:=E.out.made4 O.out 2 rfl Md2_ hb;clear O E Md2_ hb;obtain ⟨n3_,m4_,Ld2_,Od2_,O,E⟩:=q
 go_wp2_with (first|((with_reducible refine zC (t:=37) (p:=8) rfl ?_);replace O:=zz (And.intro E.out.le O.out);replace E:=zz (E.out.alloc [.slice none 0 0,.slice none 0 0] 37 (g:=w1_.heap.size) rfl);refine zD rfl 37 _ _ rfl rfl w1_.heap.size 0 d2_ [] [.slice none 0 0,.slice none 0 0] [] rfl rfl (E.out.box 0 rfl) zq8 (rfl) zq41 zq33 Od2_.out ?_;intro W5_ hp hn;replace E:=E.out.put2 0 hp hn zq10;clear hp hn)|((with_reducible refine zv (N:=11) rfl ?_);refine zy rfl 37 _ rfl w.heap.size 0 [] cs [] _ rfl (E.out.box 3 rfl) zq8 (rfl) Tryz.underlying37 rfl zq28 ?_))
 ((with_reducible refine (diskOkS_d k (l0,l1) false _ (E.out.K KS.out) FD.out).mono ?_);rintro e w6_ ⟨rfl,hb⟩)
 replace E:=zz (E.out.call hb);clear hb
 go_wp2_with (first|((with_reducible refine zv (N:=34) rfl ?_);refine zy rfl 37 _ rfl w1_.heap.size 0 [] d2_ [] _ rfl (E.out.box 0 rfl) zq8 (rfl) Tryz.underlying37 rfl zq33 ?_)|((with_reducible refine zC (t:=37) (p:=6) rfl ?_);refine zD rfl 37 _ _ rfl rfl (w.heap.size+1) 0 d2_ [] [.slice none 0 0,.slice none 0 0] [] rfl rfl (E.out.box 2 rfl) zq8 (rfl) zq41 zq33 Od2_.out ?_;intro W7_ hp hn;replace E:=E.out.put2 2 hp hn zq10;clear hp hn))
 have BX:=zz (show _=some (Obj.cells (d2_:List Value).toArray 37 (0,0)) from by first|exact (E.out.box 2 rfl)|simpa only [aA,aN,aL] using (E.out.box 2 rfl))
 refine bodyPost_ret (zha (rs:=[.cell 6 37,.tmp 7]) rfl zq15 (.cell (w.heap.size+1) 37 _ _ _ rfl BX.out Tryz.underlying37 rfl (by rw [List.size_toArray,show (d2_:List Value).length=2 from Ld2_.out];kernel_rfl) (.tmp .nil))) rfl ?_
 exact ⟨_,rfl,(zjb (d:=kDisk) (E.out.made 1 rfl) (Nat.le_refl _)),E.out.below⟩
theorem impl_WritePage.callsT (A0_0:Option Addr) (c0_0:Nat) (l0_0:List ByteArray) (A0_1:Option Addr) (c0_1:Nat) (l0_1:List (S110)) (a1:Int) (a2:ByteArray) (r1:List ByteArray) (r2:List (S110)) (w:World) (hr0_0:Kd.C Kd.string w A0_0 l0_0.length l0_0) (hc0_0:l0_0.length≤c0_0) (hr0_1:Kd.C k110 w A0_1 l0_1.length l0_1) (hc0_1:l0_1.length≤c0_1) (h:impl_WritePage.f l0_0 l0_1 a1 a2=some (r1,r2,true)):
  Calls Tryz.prog 95 #[.agg #[.slice A0_0 l0_0.length c0_0,.slice A0_1 l0_1.length c0_1],.int .i64 a1,.string a2] w fun e w'=>∃v0_ v1_:Value,e= .returned (.tuple #[.agg #[v0_,v1_],.bool true])∧Kd.R Kd.string 9 w' w.heap.size (fun _=>True) v0_ r1∧Kd.R k110 110 w' w.heap.size (fun _=>True) v1_ r2∧Below w.heap.size w w':=by
 have hu32:=Tryz.underlying37
 have hu135:=Tryz.underlying110
 have HR0_0:=zz hr0_0
 have HC0_0:=zz hc0_0
 clear hr0_0 hc0_0
 have HR0_1:=zz hr0_1
 have HC0_1:=zz hc0_1
 clear hr0_1 hc0_1
 have HB:=zz (Below.refl w.heap.size w)
 have H:((impl_cloneDisk.f l0_0 l0_1).bind fun bt447=>((impl_DiskOk.f l0_0 l0_1).bind fun t454=>(if t454=true then ((impl_isPage.f l0_0 l0_1 a1).bind fun t455=>(if t455=true then (if (a2.size:Int)>240 then (some (bt447.1,bt447.2,false)) else (if (l0_1.length:Int)≥200 then (some (bt447.1,bt447.2,false)) else (if bt447.2.length<5864062014805 then (some (bt447.1,(bt447.2++[(⟨a1,a2⟩:S110)]),true)) else (none)))) else (some (bt447.1,bt447.2,false)))) else (some (bt447.1,bt447.2,false)))))=some (r1,r2,true):=h
 clear h
 replace H:=Option.bind_eq_some_iff.mp H
 obtain ⟨⟨t447,t450⟩,A40,H⟩:=H
 replace H:((impl_DiskOk.f l0_0 l0_1).bind fun t454=>(if t454=true then ((impl_isPage.f l0_0 l0_1 a1).bind fun t455=>(if t455=true then (if (a2.size:Int)>240 then (some (t447,t450,false)) else (if (l0_1.length:Int)≥200 then (some (t447,t450,false)) else (if t450.length<5864062014805 then (some (t447,(t450++[(⟨a1,a2⟩:S110)]),true)) else (none)))) else (some (t447,t450,false)))) else (some (t447,t450,false))))=some (r1,r2,true):=H
 have A4:=zz A40
 clear A40
 replace H:=Option.bind_eq_some_iff.mp H
 obtain ⟨t454,A50,H⟩:=H
 replace H:(if t454=true then ((impl_isPage.f l0_0 l0_1 a1).bind fun t455=>(if t455=true then (if (a2.size:Int)>240 then (some (t447,t450,false)) else (if (l0_1.length:Int)≥200 then (some (t447,t450,false)) else (if t450.length<5864062014805 then (some (t447,(t450++[(⟨a1,a2⟩:S110)]),true)) else (none)))) else (some (t447,t450,false)))) else (some (t447,t450,false)))=some (r1,r2,true):=H
 have A5:=zz A50
 clear A50
 by_cases c6:t454=true
 ·subst c6
  have H1:((impl_isPage.f l0_0 l0_1 a1).bind fun t455=>(if t455=true then (if (a2.size:Int)>240 then (some (t447,t450,false)) else (if (l0_1.length:Int)≥200 then (some (t447,t450,false)) else (if t450.length<5864062014805 then (some (t447,(t450++[(⟨a1,a2⟩:S110)]),true)) else (none)))) else (some (t447,t450,false))))=some (r1,r2,true):=by rw [if_pos rfl] at H;exact H
  clear H
  have H:=H1
  clear H1
  replace H:=Option.bind_eq_some_iff.mp H
  obtain ⟨t455,A70,H⟩:=H
  replace H:(if t455=true then (if (a2.size:Int)>240 then (some (t447,t450,false)) else (if (l0_1.length:Int)≥200 then (some (t447,t450,false)) else (if t450.length<5864062014805 then (some (t447,(t450++[(⟨a1,a2⟩:S110)]),true)) else (none)))) else (some (t447,t450,false)))=some (r1,r2,true):=H
  have A7:=zz A70
  clear A70
  by_cases c8:t455=true
  ·subst c8
   have H1:(if (a2.size:Int)>240 then (some (t447,t450,false)) else (if (l0_1.length:Int)≥200 then (some (t447,t450,false)) else (if t450.length<5864062014805 then (some (t447,(t450++[(⟨a1,a2⟩:S110)]),true)) else (none))))=some (r1,r2,true):=by rw [if_pos rfl] at H;exact H
   clear H
   have H:=H1
   clear H1
   by_cases c9:(a2.size:Int)>240
   ·rw [if_pos c9] at H
    have c9b0:decide (240<(a2.size:Int))=true:=decide_eq_true c9
    have c9b1:decide (240<a2.size)=true:=decide_eq_true zq5
    clear c9
    simp only [Option.some.injEq,Prod.mk.injEq] at H
    exact absurd H.2.2 zq14
   ·rw [if_neg c9] at H
    have c9b0:decide (240<(a2.size:Int))=false:=decide_eq_false c9
    have c9b1:decide (240<a2.size)=false:=decide_eq_false zq5
    clear c9
    by_cases c27:(l0_1.length:Int)≥200
    ·rw [if_pos c27] at H
     have c27b0:decide (200≤(l0_1.length:Int))=true:=decide_eq_true c27
     have c27b1:decide (200≤l0_1.length)=true:=decide_eq_true zq5
     clear c27
     simp only [Option.some.injEq,Prod.mk.injEq] at H
     exact absurd H.2.2 zq14
    ·rw [if_neg c27] at H
     have c27b0:decide (200≤(l0_1.length:Int))=false:=decide_eq_false c27
     have c27b1:decide (200≤l0_1.length)=false:=decide_eq_false zq5
     clear c27
     by_cases c46:t450.length<5864062014805
     ·rw [if_pos c46] at H
      have LMc46:=zz c46
      clear c46
      obtain ⟨y456,hy456⟩:∃y_:List (S110),y_=(t450++[(⟨a1,a2⟩:S110)]):=⟨_,rfl⟩
      replace H:(some (t447,y456,true))=some (r1,r2,true):=by first|(rw [hy456];with_reducible exact H)|(have H2_:=(Option.bind_some _ _).symm.trans H;rw [hy456];with_reducible exact H2_)|(have H2_:=(Option.bind_some _ _).symm.trans H;with_reducible exact H2_)|with_reducible exact H|(rw [hy456];exact H)|exact H
      have Ny456:=zz hy456
      clear hy456
      simp only [Option.some.injEq,Prod.mk.injEq] at H
      obtain ⟨rfl,rfl,-⟩:=H
      go_enter Tryz.func95,Tryz.ntmps95
      go_wp2_with (first|((with_reducible refine zv (N:=3) rfl ?_);(try (refine zya zq19 ?_;dsimp only));refine zE ?hg (N:=3) ?hd (cs:= #[.slice A0_0 l0_0.length c0_0,.slice A0_1 l0_1.length c0_1]) (t:=37) ?hr ?_;(case hd=>rfl);(case hg=>rfl);(case hr=>first|(go_simp;done)|(go_simp;rfl));intro gb445 hg w47 hbox hb;have n0_:=zz (zk zq1 hb);have n1_:=zz (hbox);have n2_:=zz ((by rw [hg];exact (zi zq1):w.heap.size≤gb445));have n3_:=zz ((by rw [hg];exact (zi zq1):w.heap.size≤gb445));clear HB;have HB:=n0_;have BK445:=n1_;have GW445:=n2_;have GE445:=n3_;clear n0_ n1_ n2_ n3_;clear hb hbox hg)|((with_reducible refine zv (N:=6) rfl ?_);(try (refine zya zq19 ?_;dsimp only));refine zE ?hg (N:=6) ?hd (cs:= #[.slice none 0 0,.slice none 0 0]) (t:=37) ?hr ?_;(case hd=>rfl);(case hg=>rfl);(case hr=>first|(go_simp;done)|(go_simp;rfl));intro gb446 hg w48 hbox hb;have n0_:=zz (zu (g:=gb445) (o:= .cells #[.slice A0_0 l0_0.length c0_0,.slice A0_1 l0_1.length c0_1] 37 (0,0)) (zq0 BK445.out) hb);have n1_:=zz (zk (zq3 GE445.out) hb);have n2_:=zz (hbox);have n3_:=zz ((by rw [hg];exact (zi (zq3 GE445.out)):w.heap.size≤gb446));have n4_:=zz ((by rw [hg];exact (zi (zq3 GE445.out)):w.heap.size≤gb446));have n5_:=zz ((by rw [hg];exact Nat.ne_of_lt (zG (g:=gb445) (o:= .cells #[.slice A0_0 l0_0.length c0_0,.slice A0_1 l0_1.length c0_1] 37 (0,0)) (zq0 BK445.out)):gb445≠gb446));have n6_:=zz ((by rw [hg];exact Nat.ne_of_gt (zG (g:=gb445) (o:= .cells #[.slice A0_0 l0_0.length c0_0,.slice A0_1 l0_1.length c0_1] 37 (0,0)) (zq0 BK445.out)):gb446≠gb445));clear BK445;clear HB;have BK445:=n0_;have HB:=n1_;have BK446:=n2_;have GW446:=n3_;have GE446:=n4_;have NB445_446:=n5_;have NB446_445:=n6_;clear n0_ n1_ n2_ n3_ n4_ n5_ n6_;clear hb hbox hg;have hnb49:=NB445_446.out;have hnc49:=NB446_445.out;have hcz50_0:w48.cell? ⟨gb445,0,none⟩=some (.slice A0_0 l0_0.length c0_0):=(ze BK445.out 0).trans rfl;have hcz50_1:w48.cell? ⟨gb445,1,none⟩=some (.slice A0_1 l0_1.length c0_1):=(ze BK445.out 1).trans rfl;have hfz50_0:=zd BK445.out 0;have hfz50_1:=zd BK445.out 1)|((with_reducible refine zB (f:=46) rfl ?_);refine zO (some 10) rfl rfl Tryz.func46 zq7 rfl #[.agg #[.slice A0_0 l0_0.length c0_0,.slice A0_1 l0_1.length c0_1]] rfl zq4 ?_;(with_reducible refine (impl_cloneDisk.calls _ _ l0_0 _ _ l0_1 t447 t450 _ ?side1 ?side2 ?side3 ?side4 A4.out).mono ?_);(case side1=>repeat (first|exact (Kd.C_below HR0_0.out HB.out)|(with_reducible refine Kd.C_alloc ?_ _)|(with_reducible refine Kd.C_drewN ?_ _)|(with_reducible refine Kd.C_drew ?_)));(case side2=>exact HC0_0.out);(case side3=>repeat (first|exact (Kd.C_below HR0_1.out HB.out)|(with_reducible refine Kd.C_alloc ?_ _)|(with_reducible refine Kd.C_drewN ?_ _)|(with_reducible refine Kd.C_drew ?_)));(case side4=>exact HC0_1.out);rintro e w51 ⟨v448,v451,rfl,ho0,ho1,hb⟩;refine ⟨_,rfl,?_⟩;(first|have rs_v448:=zN (P:=Tryz.prog) ho0|have rs_v448:=zN (P:=Tryz.prog) (Kd.S_R ho0)|skip);(first|have rs_v451:=zN (P:=Tryz.prog) ho1|have rs_v451:=zN (P:=Tryz.prog) (Kd.S_R ho1)|skip);have n0_:=zz (Kd.R_lower ho0 (zi (zq2 GE445.out GE446.out)));have n1_:=zz (Kd.R_lower ho1 (zi (zq2 GE445.out GE446.out)));have n2_:=zz (zu (g:=gb445) (o:= .cells #[.slice A0_0 l0_0.length c0_0,.slice A0_1 l0_1.length c0_1] 37 (0,0)) (zq0 BK445.out) hb);have n3_:=zz (zu (g:=gb446) (o:= .cells #[.slice none 0 0,.slice none 0 0] 37 (0,0)) (zq0 BK446.out) hb);have n4_:=zz (zk (zq2 GE445.out GE446.out) hb);clear BK445;clear BK446;clear HB;have HO449:=n0_;have HO452:=n1_;have BK445:=n2_;have BK446:=n3_;have HB:=n4_;clear n0_ n1_ n2_ n3_ n4_;(try clear hb);(try clear hb2);(try clear hk);(try clear hi);(try clear ho0);(try clear ho1))|((with_reducible refine zv (N:=8) rfl ?_);(try (refine zya zq19 ?_;dsimp only));refine zE ?hg (N:=8) ?hd (cs:= #[.slice none 0 0,.slice none 0 0]) (t:=37) ?hr ?_;(case hd=>rfl);(case hg=>rfl);(case hr=>first|(go_simp;done)|(go_simp;rfl));intro gb453 hg w52 hbox hb;have n0_:=zz (Kd.R_below (zq9 HO449.out) hb);have n1_:=zz (Kd.R_below (zq9 HO452.out) hb);have n2_:=zz (zu (g:=gb445) (o:= .cells #[.slice A0_0 l0_0.length c0_0,.slice A0_1 l0_1.length c0_1] 37 (0,0)) (zq0 BK445.out) hb);have n3_:=zz (zu (g:=gb446) (o:= .cells #[.slice none 0 0,.slice none 0 0] 37 (0,0)) (zq0 BK446.out) hb);have n4_:=zz (zk (zq2 GE445.out GE446.out) hb);have n5_:=zz (hbox);have n6_:=zz ((by rw [hg];exact (zi (zq2 GE445.out GE446.out)):w.heap.size≤gb453));have n7_:=zz ((by rw [hg];exact (zi (zq2 GE445.out GE446.out)):w.heap.size≤gb453));have n8_:=zz ((by rw [hg];exact Nat.ne_of_lt (zG (g:=gb445) (o:= .cells #[.slice A0_0 l0_0.length c0_0,.slice A0_1 l0_1.length c0_1] 37 (0,0)) (zq0 BK445.out)):gb445≠gb453));have n9_:=zz ((by rw [hg];exact Nat.ne_of_gt (zG (g:=gb445) (o:= .cells #[.slice A0_0 l0_0.length c0_0,.slice A0_1 l0_1.length c0_1] 37 (0,0)) (zq0 BK445.out)):gb453≠gb445));have n10_:=zz ((by rw [hg];exact Nat.ne_of_lt (zG (g:=gb446) (o:= .cells #[.slice none 0 0,.slice none 0 0] 37 (0,0)) (zq0 BK446.out)):gb446≠gb453));have n11_:=zz ((by rw [hg];exact Nat.ne_of_gt (zG (g:=gb446) (o:= .cells #[.slice none 0 0,.slice none 0 0] 37 (0,0)) (zq0 BK446.out)):gb453≠gb446));clear HO449;clear HO452;clear BK445;clear BK446;clear HB;have HO449:=n0_;have HO452:=n1_;have BK445:=n2_;have BK446:=n3_;have HB:=n4_;have BK453:=n5_;have GW453:=n6_;have GE453:=n7_;have NB445_453:=n8_;have NB453_445:=n9_;have NB446_453:=n10_;have NB453_446:=n11_;clear n0_ n1_ n2_ n3_ n4_ n5_ n6_ n7_ n8_ n9_ n10_ n11_;clear hb hbox hg;obtain ⟨Ao53,co53,eo53⟩:=Kd.R_slice HO449.out;subst eo53;have hnb54:=NB453_445.out;have hnc54:=NB445_453.out;have hnb55:=NB453_446.out;have hnc55:=NB446_453.out;have hcz56_0:w52.cell? ⟨gb453,0,none⟩=some (.slice none 0 0):=(ze BK453.out 0).trans rfl;have hcz56_1:w52.cell? ⟨gb453,1,none⟩=some (.slice none 0 0):=(ze BK453.out 1).trans rfl;have hfz56_0:=zd BK453.out 0;have hfz56_1:=zd BK453.out 1;obtain ⟨Ao57,co57,eo57⟩:=Kd.R_slice HO452.out;subst eo57;have hcz58_0:w52.cell? ⟨gb445,0,none⟩=some (.slice A0_0 l0_0.length c0_0):=(ze BK445.out 0).trans rfl;have hcz58_1:w52.cell? ⟨gb445,1,none⟩=some (.slice A0_1 l0_1.length c0_1):=(ze BK445.out 1).trans rfl;have hfz58_0:=zd BK445.out 0;have hfz58_1:=zd BK445.out 1)|((with_reducible refine zB (f:=103) rfl ?_);refine zO (some 12) rfl rfl Tryz.func103 zq7 rfl #[.agg #[.slice A0_0 l0_0.length c0_0,.slice A0_1 l0_1.length c0_1]] rfl zq4 ?_;(with_reducible refine (impl_DiskOk.calls _ _ l0_0 _ _ l0_1 true _ ?side1 ?side2 ?side3 ?side4 A5.out).mono ?_);(case side1=>exact Kd.C_below HR0_0.out (zq6 GE445.out GE446.out GE453.out));(case side2=>exact HC0_0.out);(case side3=>exact Kd.C_below HR0_1.out (zq6 GE445.out GE446.out GE453.out));(case side4=>exact HC0_1.out);rintro e w59 ⟨rfl,hb⟩;refine ⟨_,rfl,?_⟩;have n0_:=zz (Kd.R_below (zq36 HO449.out BK453.out) hb);have n1_:=zz (Kd.R_below (zq36 HO452.out BK453.out) hb);have n2_:=zz (zu (g:=gb445) (o:= .cells #[.slice A0_0 l0_0.length c0_0,.slice A0_1 l0_1.length c0_1] 37 (0,0)) (by (with_reducible repeat (first|refine zj ?_ _|refine zl ?_|refine zh ?_ _));refine zH ?_ NB445_453.out _;(with_reducible repeat (first|refine zj ?_ _|refine zl ?_|refine zh ?_ _));refine zH ?_ NB445_453.out _;(with_reducible repeat (first|refine zj ?_ _|refine zl ?_|refine zh ?_ _));exact BK445.out) hb);have n3_:=zz (zu (g:=gb446) (o:= .cells #[.slice none 0 0,.slice none 0 0] 37 (0,0)) (by (with_reducible repeat (first|refine zj ?_ _|refine zl ?_|refine zh ?_ _));refine zH ?_ NB446_453.out _;(with_reducible repeat (first|refine zj ?_ _|refine zl ?_|refine zh ?_ _));refine zH ?_ NB446_453.out _;(with_reducible repeat (first|refine zj ?_ _|refine zl ?_|refine zh ?_ _));exact BK446.out) hb);have n4_:=zz (zu (g:=gb453) (o:= .cells #[.slice Ao53 t447.length co53,.slice Ao57 t450.length co57] 37 (0,0)) (by (with_reducible repeat (first|refine zj ?_ _|refine zl ?_|refine zh ?_ _));refine zL (cs:= #[.slice Ao53 t447.length co53,.slice none 0 0]) ?_ 1 _ rfl;(with_reducible repeat (first|refine zj ?_ _|refine zl ?_|refine zh ?_ _));refine zL (cs:= #[.slice none 0 0,.slice none 0 0]) ?_ 0 _ rfl;(with_reducible repeat (first|refine zj ?_ _|refine zl ?_|refine zh ?_ _));exact BK453.out) hb);have n5_:=zz (zk (zq6 GE445.out GE446.out GE453.out) hb);clear HO449;clear HO452;clear BK445;clear BK446;clear BK453;clear HB;have HO449:=n0_;have HO452:=n1_;have BK445:=n2_;have BK446:=n3_;have BK453:=n4_;have HB:=n5_;clear n0_ n1_ n2_ n3_ n4_ n5_;(try clear hb);(try clear hb2);(try clear hk);(try clear hi);have hcz60_0:w59.cell? ⟨gb445,0,none⟩=some (.slice A0_0 l0_0.length c0_0):=(ze BK445.out 0).trans rfl;have hcz60_1:w59.cell? ⟨gb445,1,none⟩=some (.slice A0_1 l0_1.length c0_1):=(ze BK445.out 1).trans rfl;have hfz60_0:=zd BK445.out 0;have hfz60_1:=zd BK445.out 1)|(go_at_call 86;(with_reducible refine (impl_isPage.calls _ _ l0_0 _ _ l0_1 a1 true _ ?side1 ?side2 ?side3 ?side4 A7.out).mono ?_);(case side1=>repeat (first|exact (Kd.C_below HR0_0.out HB.out)|(with_reducible refine Kd.C_alloc ?_ _)|(with_reducible refine Kd.C_drewN ?_ _)|(with_reducible refine Kd.C_drew ?_)));(case side2=>exact HC0_0.out);(case side3=>repeat (first|exact (Kd.C_below HR0_1.out HB.out)|(with_reducible refine Kd.C_alloc ?_ _)|(with_reducible refine Kd.C_drewN ?_ _)|(with_reducible refine Kd.C_drew ?_)));(case side4=>exact HC0_1.out);rintro e w61 ⟨rfl,hb⟩;have n0_:=zz (Kd.R_below (zq9 HO449.out) hb);have n1_:=zz (Kd.R_below (zq9 HO452.out) hb);have n2_:=zz (zu (g:=gb445) (o:= .cells #[.slice A0_0 l0_0.length c0_0,.slice A0_1 l0_1.length c0_1] 37 (0,0)) (zq0 BK445.out) hb);have n3_:=zz (zu (g:=gb446) (o:= .cells #[.slice none 0 0,.slice none 0 0] 37 (0,0)) (zq0 BK446.out) hb);have n4_:=zz (zu (g:=gb453) (o:= .cells #[.slice Ao53 t447.length co53,.slice Ao57 t450.length co57] 37 (0,0)) (zq0 BK453.out) hb);have n5_:=zz (zk (zq6 GE445.out GE446.out GE453.out) hb);clear HO449;clear HO452;clear BK445;clear BK446;clear BK453;clear HB;have HO449:=n0_;have HO452:=n1_;have BK445:=n2_;have BK446:=n3_;have BK453:=n4_;have HB:=n5_;clear n0_ n1_ n2_ n3_ n4_ n5_;(try clear hb);(try clear hb2);(try clear hk);(try clear hi);have hcz62_0:w61.cell? ⟨gb445,0,none⟩=some (.slice A0_0 l0_0.length c0_0):=(ze BK445.out 0).trans rfl;have hcz62_1:w61.cell? ⟨gb445,1,none⟩=some (.slice A0_1 l0_1.length c0_1):=(ze BK445.out 1).trans rfl;have hfz62_0:=zd BK445.out 0;have hfz62_1:=zd BK445.out 1;have hcz63_0:w61.cell? ⟨gb453,0,none⟩=some (.slice Ao53 t447.length co53):=(ze BK453.out 0).trans rfl;have hcz63_1:w61.cell? ⟨gb453,1,none⟩=some (.slice Ao57 t450.length co57):=(ze BK453.out 1).trans rfl;have hfz63_0:=zd BK453.out 0;have hfz63_1:=zd BK453.out 1)|((with_reducible refine zQ (b:= .append) (xs:= #[.tmp 33,.tmp 37]) rfl ?_);(try (refine zya zq19 ?_;dsimp only));at_builtin;refine Kd.R_append k110 (w0:=w) w.heap.size rfl (.tmp 33) (.tmp 37) 35 110 (.agg #[(.int .i64 0),(.string ⟨#[]⟩)]) 24 rfl Tryz.underlying35 info110 rfl zq14 zq5 (.slice Ao57 t450.length co57) t450 (⟨a1,a2⟩:S110) [.int .i64 a1,.string a2] (fun _=>True) (fun _=>False) rfl rfl ?aP (fun _ hk=>hk.elim) ?aF ?aO ?aB ?aS ?aL ?_;(case aP=>exact k110_mkM _ _ _ (⟨a1,a2⟩:S110));(case aB=>exact (zq6 GE445.out GE446.out GE453.out));(case aF=>exact (fun _ _=>trivial));(case aO=>exact (zq9 HO452.out));(case aS=>exact (zi (zq6 GE445.out GE446.out GE453.out)));(case aL=>have:=LMc46.out;omega);intro v457 w64 ho hb hg hat;rw [←Ny456.out] at ho;have n0_:=zz (zI (g:=gb445) (o:= .cells #[.slice A0_0 l0_0.length c0_0,.slice A0_1 l0_1.length c0_1] 37 (0,0)) (zq0 BK445.out) hg (Kd.R_ne HO452.out BK445.out zq14));have n1_:=zz (zI (g:=gb446) (o:= .cells #[.slice none 0 0,.slice none 0 0] 37 (0,0)) (zq0 BK446.out) hg (Kd.R_ne HO452.out BK446.out zq14));have n2_:=zz (Kd.R_over' (zq9 HO449.out) (Kd.R_typed (zq9 HO452.out)) zq14 hg);have n3_:=zz (zI (g:=gb453) (o:= .cells #[.slice Ao53 t447.length co53,.slice Ao57 t450.length co57] 37 (0,0)) (zq0 BK453.out) hg (Kd.R_ne HO452.out BK453.out zq14));have n4_:=zz (hb);have n5_:=zz (ho);clear BK445;clear BK446;clear HO449;clear BK453;clear HB;clear HO452;have BK445:=n0_;have BK446:=n1_;have HO449:=n2_;have BK453:=n3_;have HB:=n4_;have HO458:=n5_;clear n0_ n1_ n2_ n3_ n4_ n5_;clear ho hb hg hat;obtain ⟨Ao65,co65,eo65⟩:=Kd.R_slice HO458.out;subst eo65;have hcz66_0:w64.cell? ⟨gb453,0,none⟩=some (.slice Ao53 t447.length co53):=(ze BK453.out 0).trans rfl;have hcz66_1:w64.cell? ⟨gb453,1,none⟩=some (.slice Ao57 t450.length co57):=(ze BK453.out 1).trans rfl;have hfz66_0:=zd BK453.out 0;have hfz66_1:=zd BK453.out 1;have hcz67_0:w64.cell? ⟨gb446,0,none⟩=some (.slice none 0 0):=(ze BK446.out 0).trans rfl;have hcz67_1:w64.cell? ⟨gb446,1,none⟩=some (.slice none 0 0):=(ze BK446.out 1).trans rfl;have hfz67_0:=zd BK446.out 0;have hfz67_1:=zd BK446.out 1))
      refine bodyPost_ret (results_ct rfl _ _ gb446 37 #[.slice Ao53 t447.length co53,.slice Ao65 y456.length co65] (0,0) _ rfl (by (with_reducible repeat (first|refine zj ?_ _|refine zl ?_|refine zh ?_ _));refine zL (cs:= #[.slice Ao53 t447.length co53,.slice none 0 0]) ?_ 1 _ rfl;(with_reducible repeat (first|refine zj ?_ _|refine zl ?_|refine zh ?_ _));refine zL (cs:= #[.slice none 0 0,.slice none 0 0]) ?_ 0 _ rfl;(with_reducible repeat (first|refine zj ?_ _|refine zl ?_|refine zh ?_ _));refine zH ?_ NB446_453.out _;(with_reducible repeat (first|refine zj ?_ _|refine zl ?_|refine zh ?_ _));exact BK446.out) Tryz.underlying37 rfl zq7) rfl ?_
      exact ⟨_,_,by first|rfl|(simp [zx,zw]<;>rfl)|(simp [*,zx,zw]<;>rfl),by (with_reducible repeat (first|apply Kd.R_alloc|apply Kd.R_drewN|apply Kd.R_drew));exact Kd.R_mono (Kd.R_far (p:=⟨gb446,1,none⟩) (Kd.R_far (p:=⟨gb446,0,none⟩) (Kd.R_far (p:=⟨gb453,1,none⟩) (Kd.R_types (Kd.R_types HO449.out BK453.out zq14) BK446.out zq14) (fun _ hk=>hk.1.2) (.slice Ao65 y456.length co65)) (fun _ hk=>hk.2) (.slice Ao53 t447.length co53)) (fun _ hk=>hk.2) (.slice Ao65 y456.length co65)) (fun _ hk=>trivial),by (with_reducible repeat (first|apply Kd.R_alloc|apply Kd.R_drewN|apply Kd.R_drew));exact Kd.R_mono (Kd.R_far (p:=⟨gb446,1,none⟩) (Kd.R_far (p:=⟨gb446,0,none⟩) (Kd.R_far (p:=⟨gb453,1,none⟩) (Kd.R_types (Kd.R_types HO458.out BK453.out zq14) BK446.out zq14) (fun _ hk=>hk.1.2) (.slice Ao65 y456.length co65)) (fun _ hk=>hk.2) (.slice Ao53 t447.length co53)) (fun _ hk=>hk.2) (.slice Ao65 y456.length co65)) (fun _ hk=>trivial),by repeat (first|(with_reducible first|exact HB.out|apply zg|apply zf|apply zm|refine zr ?_ GE445.out|refine zr ?_ GE446.out|refine zr ?_ GE453.out)|exact HB.out)⟩
     ·rw [if_neg c46] at H
      exact absurd H zq15
  ·replace c8:=Bool.eq_false_iff.mpr c8
   subst c8
   have H1:(some (t447,t450,false))=some (r1,r2,true):=by rw [if_neg (show ¬(false=true) by decide)] at H;exact H
   clear H
   have H:=H1
   clear H1
   simp only [Option.some.injEq,Prod.mk.injEq] at H
   exact absurd H.2.2 zq14
 ·replace c6:=Bool.eq_false_iff.mpr c6
  subst c6
  have H1:(some (t447,t450,false))=some (r1,r2,true):=by rw [if_neg (show ¬(false=true) by decide)] at H;exact H
  clear H
  have H:=H1
  clear H1
  simp only [Option.some.injEq,Prod.mk.injEq] at H
  exact absurd H.2.2 zq14
theorem writeI_t (k:Nat) (z z':(List ByteArray×List S110)) (a:Int) (t:ByteArray) {cs:List Value} (w:World) (h:kDisk.K w z cs) (hf:impl_WritePage.f z.1 z.2 a t=some (z'.1,z'.2,true)):
  Calls Tryz.prog 95 #[.agg cs.toArray,.int .i64 a,.string t] w fun e w'=>∃ds:List Value,e= .returned (.tuple #[.agg ds.toArray,.bool true])∧kDisk.M w' w.heap.size (Fr w w') z' ds∧Below w.heap.size w w':=by
 obtain ⟨l0,l1⟩:=z
 obtain ⟨q0,q1⟩:=z'
 obtain ⟨A0,c0,A1,c1,rfl,m0,r0,m1,r1⟩:=zma h
 refine (impl_WritePage.callsT A0 c0 l0 A1 c1 l1 a t q0 q1 w r0 m0 r1 m1 hf).mono ?_
 rintro e w' ⟨v0,v1,rfl,R0,R1,hb⟩
 have T0:=Own.R_tightB rfl R0
 have T1:=Own.R_tightB rfl R1
 exact ⟨[v0,v1],rfl,zSa T0.1 T1.1 T0.2.1 T1.2.1 (Own.types_ne T0.2.2 T1.2.2 zq14),hb⟩
theorem spec_WritePage.callsT (k:Nat) (A0_0:Option Addr) (c0_0:Nat) (l0_0:List ByteArray) (A0_1:Option Addr) (c0_1:Nat) (l0_1:List (S110)) (a1:Int) (a2:ByteArray) (r1:List ByteArray) (r2:List (S110)) (w:World) (hr0_0:Kd.C Kd.string w A0_0 l0_0.length l0_0) (hc0_0:l0_0.length≤c0_0) (hr0_1:Kd.C k110 w A0_1 l0_1.length l0_1) (hc0_1:l0_1.length≤c0_1) (h:spec_WritePage.f k l0_0 l0_1 a1 a2=some (r1,r2,true)):
  Calls Tryz.prog 38 #[.agg #[.slice A0_0 l0_0.length c0_0,.slice A0_1 l0_1.length c0_1],.int .i64 a1,.string a2] w fun e w'=>∃v0_ v1_:Value,e= .returned (.tuple #[.agg #[v0_,v1_],.bool true])∧Kd.R Kd.string 9 w' w.heap.size (fun _=>True) v0_ r1∧Kd.R k110 110 w' w.heap.size (fun _=>True) v1_ r2∧Below w.heap.size w w':=by
 have hu32:=Tryz.underlying37
 have hu135:=Tryz.underlying110
 have HR0_0:=zz hr0_0
 have HC0_0:=zz hc0_0
 clear hr0_0 hc0_0
 have HR0_1:=zz hr0_1
 have HC0_1:=zz hc0_1
 clear hr0_1 hc0_1
 have HB:=zz (Below.refl w.heap.size w)
 have H:((spec_l03Copy.f l0_0 l0_1).bind fun bt316=>((spec_DiskOk.f k l0_0 l0_1).bind fun t323=>(if t323=true then ((spec_l01In.f a1 0 (wrap64 ((l0_0.length:Int)-1))).bind fun t324=>(if t324=true then (if (a2.size:Int)>240 then (some (bt316.1,bt316.2,false)) else (if (l0_1.length:Int)=200 then (some (bt316.1,bt316.2,false)) else (if bt316.2.length<5864062014805 then (some (bt316.1,(bt316.2++[(⟨a1,a2⟩:S110)]),true)) else (none)))) else (some (bt316.1,bt316.2,false)))) else (some (bt316.1,bt316.2,false)))))=some (r1,r2,true):=h
 clear h
 replace H:=Option.bind_eq_some_iff.mp H
 obtain ⟨⟨t316,t319⟩,A40,H⟩:=H
 replace H:((spec_DiskOk.f k l0_0 l0_1).bind fun t323=>(if t323=true then ((spec_l01In.f a1 0 (wrap64 ((l0_0.length:Int)-1))).bind fun t324=>(if t324=true then (if (a2.size:Int)>240 then (some (t316,t319,false)) else (if (l0_1.length:Int)=200 then (some (t316,t319,false)) else (if t319.length<5864062014805 then (some (t316,(t319++[(⟨a1,a2⟩:S110)]),true)) else (none)))) else (some (t316,t319,false)))) else (some (t316,t319,false))))=some (r1,r2,true):=H
 have A4:=zz A40
 clear A40
 replace H:=Option.bind_eq_some_iff.mp H
 obtain ⟨t323,A50,H⟩:=H
 replace H:(if t323=true then ((spec_l01In.f a1 0 (wrap64 ((l0_0.length:Int)-1))).bind fun t324=>(if t324=true then (if (a2.size:Int)>240 then (some (t316,t319,false)) else (if (l0_1.length:Int)=200 then (some (t316,t319,false)) else (if t319.length<5864062014805 then (some (t316,(t319++[(⟨a1,a2⟩:S110)]),true)) else (none)))) else (some (t316,t319,false)))) else (some (t316,t319,false)))=some (r1,r2,true):=H
 have A5:=zz A50
 clear A50
 by_cases c6:t323=true
 ·subst c6
  have H1:((spec_l01In.f a1 0 (wrap64 ((l0_0.length:Int)-1))).bind fun t324=>(if t324=true then (if (a2.size:Int)>240 then (some (t316,t319,false)) else (if (l0_1.length:Int)=200 then (some (t316,t319,false)) else (if t319.length<5864062014805 then (some (t316,(t319++[(⟨a1,a2⟩:S110)]),true)) else (none)))) else (some (t316,t319,false))))=some (r1,r2,true):=by rw [if_pos rfl] at H;exact H
  clear H
  have H:=H1
  clear H1
  replace H:=Option.bind_eq_some_iff.mp H
  obtain ⟨t324,A70,H⟩:=H
  replace H:(if t324=true then (if (a2.size:Int)>240 then (some (t316,t319,false)) else (if (l0_1.length:Int)=200 then (some (t316,t319,false)) else (if t319.length<5864062014805 then (some (t316,(t319++[(⟨a1,a2⟩:S110)]),true)) else (none)))) else (some (t316,t319,false)))=some (r1,r2,true):=H
  have A7:=zz A70
  clear A70
  by_cases c8:t324=true
  ·subst c8
   have H1:(if (a2.size:Int)>240 then (some (t316,t319,false)) else (if (l0_1.length:Int)=200 then (some (t316,t319,false)) else (if t319.length<5864062014805 then (some (t316,(t319++[(⟨a1,a2⟩:S110)]),true)) else (none))))=some (r1,r2,true):=by rw [if_pos rfl] at H;exact H
   clear H
   have H:=H1
   clear H1
   by_cases c9:(a2.size:Int)>240
   ·rw [if_pos c9] at H
    have c9b0:decide (240<(a2.size:Int))=true:=decide_eq_true c9
    have c9b1:decide (240<a2.size)=true:=decide_eq_true zq5
    clear c9
    simp only [Option.some.injEq,Prod.mk.injEq] at H
    exact absurd H.2.2 zq14
   ·rw [if_neg c9] at H
    have c9b0:decide (240<(a2.size:Int))=false:=decide_eq_false c9
    have c9b1:decide (240<a2.size)=false:=decide_eq_false zq5
    clear c9
    by_cases c26:(l0_1.length:Int)=200
    ·rw [if_pos c26] at H
     have c26b0:((l0_1.length:Int)==200)=true:=beq_iff_eq.mpr c26
     have c26b1:((l0_1.length:Int) !=200)=false:=bne_eq_false_iff_eq.mpr c26
     clear c26
     simp only [Option.some.injEq,Prod.mk.injEq] at H
     exact absurd H.2.2 zq14
    ·rw [if_neg c26] at H
     have c26b0:((l0_1.length:Int)==200)=false:=beq_eq_false_iff_ne.mpr c26
     have c26b1:((l0_1.length:Int) !=200)=true:=bne_iff_ne.mpr c26
     by_cases c43:t319.length<5864062014805
     ·rw [if_pos c43] at H
      have LMc43:=zz c43
      clear c43
      obtain ⟨y325,hy325⟩:∃y_:List (S110),y_=(t319++[(⟨a1,a2⟩:S110)]):=⟨_,rfl⟩
      replace H:(some (t316,y325,true))=some (r1,r2,true):=by first|(rw [hy325];with_reducible exact H)|(have H2_:=(Option.bind_some _ _).symm.trans H;rw [hy325];with_reducible exact H2_)|(have H2_:=(Option.bind_some _ _).symm.trans H;with_reducible exact H2_)|with_reducible exact H|(rw [hy325];exact H)|exact H
      have Ny325:=zz hy325
      clear hy325
      simp only [Option.some.injEq,Prod.mk.injEq] at H
      obtain ⟨rfl,rfl,-⟩:=H
      go_enter Tryz.func38,Tryz.ntmps38
      go_wp2_with (first|((with_reducible refine zv (N:=3) rfl ?_);(try (refine zya zq19 ?_;dsimp only));refine zE ?hg (N:=3) ?hd (cs:= #[.slice A0_0 l0_0.length c0_0,.slice A0_1 l0_1.length c0_1]) (t:=37) ?hr ?_;(case hd=>rfl);(case hg=>rfl);(case hr=>first|(go_simp;done)|(go_simp;rfl));intro gb314 hg w44 hbox hb;have n0_:=zz (zk zq1 hb);have n1_:=zz (hbox);have n2_:=zz ((by rw [hg];exact (zi zq1):w.heap.size≤gb314));have n3_:=zz ((by rw [hg];exact (zi zq1):w.heap.size≤gb314));clear HB;have HB:=n0_;have BK314:=n1_;have GW314:=n2_;have GE314:=n3_;clear n0_ n1_ n2_ n3_;clear hb hbox hg)|((with_reducible refine zv (N:=6) rfl ?_);(try (refine zya zq19 ?_;dsimp only));refine zE ?hg (N:=6) ?hd (cs:= #[.slice none 0 0,.slice none 0 0]) (t:=37) ?hr ?_;(case hd=>rfl);(case hg=>rfl);(case hr=>first|(go_simp;done)|(go_simp;rfl));intro gb315 hg w45 hbox hb;have n0_:=zz (zu (g:=gb314) (o:= .cells #[.slice A0_0 l0_0.length c0_0,.slice A0_1 l0_1.length c0_1] 37 (0,0)) (zq0 BK314.out) hb);have n1_:=zz (zk (zq3 GE314.out) hb);have n2_:=zz (hbox);have n3_:=zz ((by rw [hg];exact (zi (zq3 GE314.out)):w.heap.size≤gb315));have n4_:=zz ((by rw [hg];exact (zi (zq3 GE314.out)):w.heap.size≤gb315));have n5_:=zz ((by rw [hg];exact Nat.ne_of_lt (zG (g:=gb314) (o:= .cells #[.slice A0_0 l0_0.length c0_0,.slice A0_1 l0_1.length c0_1] 37 (0,0)) (zq0 BK314.out)):gb314≠gb315));have n6_:=zz ((by rw [hg];exact Nat.ne_of_gt (zG (g:=gb314) (o:= .cells #[.slice A0_0 l0_0.length c0_0,.slice A0_1 l0_1.length c0_1] 37 (0,0)) (zq0 BK314.out)):gb315≠gb314));clear BK314;clear HB;have BK314:=n0_;have HB:=n1_;have BK315:=n2_;have GW315:=n3_;have GE315:=n4_;have NB314_315:=n5_;have NB315_314:=n6_;clear n0_ n1_ n2_ n3_ n4_ n5_ n6_;clear hb hbox hg;have hnb46:=NB314_315.out;have hnc46:=NB315_314.out;have hcz47_0:w45.cell? ⟨gb314,0,none⟩=some (.slice A0_0 l0_0.length c0_0):=(ze BK314.out 0).trans rfl;have hcz47_1:w45.cell? ⟨gb314,1,none⟩=some (.slice A0_1 l0_1.length c0_1):=(ze BK314.out 1).trans rfl;have hfz47_0:=zd BK314.out 0;have hfz47_1:=zd BK314.out 1)|((with_reducible refine zB (f:=36) rfl ?_);refine zO (some 10) rfl rfl Tryz.func36 zq7 rfl #[.agg #[.slice A0_0 l0_0.length c0_0,.slice A0_1 l0_1.length c0_1]] rfl zq4 ?_;(with_reducible refine (spec_l03Copy.calls _ _ l0_0 _ _ l0_1 t316 t319 _ ?side1 ?side2 ?side3 ?side4 A4.out).mono ?_);(case side1=>repeat (first|exact (Kd.C_below HR0_0.out HB.out)|(with_reducible refine Kd.C_alloc ?_ _)|(with_reducible refine Kd.C_drewN ?_ _)|(with_reducible refine Kd.C_drew ?_)));(case side2=>exact HC0_0.out);(case side3=>repeat (first|exact (Kd.C_below HR0_1.out HB.out)|(with_reducible refine Kd.C_alloc ?_ _)|(with_reducible refine Kd.C_drewN ?_ _)|(with_reducible refine Kd.C_drew ?_)));(case side4=>exact HC0_1.out);rintro e w48 ⟨v317,v320,rfl,ho0,ho1,hb⟩;refine ⟨_,rfl,?_⟩;(first|have rs_v317:=zN (P:=Tryz.prog) ho0|have rs_v317:=zN (P:=Tryz.prog) (Kd.S_R ho0)|skip);(first|have rs_v320:=zN (P:=Tryz.prog) ho1|have rs_v320:=zN (P:=Tryz.prog) (Kd.S_R ho1)|skip);have n0_:=zz (Kd.R_lower ho0 (zi (zq2 GE314.out GE315.out)));have n1_:=zz (Kd.R_lower ho1 (zi (zq2 GE314.out GE315.out)));have n2_:=zz (zu (g:=gb314) (o:= .cells #[.slice A0_0 l0_0.length c0_0,.slice A0_1 l0_1.length c0_1] 37 (0,0)) (zq0 BK314.out) hb);have n3_:=zz (zu (g:=gb315) (o:= .cells #[.slice none 0 0,.slice none 0 0] 37 (0,0)) (zq0 BK315.out) hb);have n4_:=zz (zk (zq2 GE314.out GE315.out) hb);clear BK314;clear BK315;clear HB;have HO318:=n0_;have HO321:=n1_;have BK314:=n2_;have BK315:=n3_;have HB:=n4_;clear n0_ n1_ n2_ n3_ n4_;(try clear hb);(try clear hb2);(try clear hk);(try clear hi);(try clear ho0);(try clear ho1))|((with_reducible refine zv (N:=8) rfl ?_);(try (refine zya zq19 ?_;dsimp only));refine zE ?hg (N:=8) ?hd (cs:= #[.slice none 0 0,.slice none 0 0]) (t:=37) ?hr ?_;(case hd=>rfl);(case hg=>rfl);(case hr=>first|(go_simp;done)|(go_simp;rfl));intro gb322 hg w49 hbox hb;have n0_:=zz (Kd.R_below (zq9 HO318.out) hb);have n1_:=zz (Kd.R_below (zq9 HO321.out) hb);have n2_:=zz (zu (g:=gb314) (o:= .cells #[.slice A0_0 l0_0.length c0_0,.slice A0_1 l0_1.length c0_1] 37 (0,0)) (zq0 BK314.out) hb);have n3_:=zz (zu (g:=gb315) (o:= .cells #[.slice none 0 0,.slice none 0 0] 37 (0,0)) (zq0 BK315.out) hb);have n4_:=zz (zk (zq2 GE314.out GE315.out) hb);have n5_:=zz (hbox);have n6_:=zz ((by rw [hg];exact (zi (zq2 GE314.out GE315.out)):w.heap.size≤gb322));have n7_:=zz ((by rw [hg];exact (zi (zq2 GE314.out GE315.out)):w.heap.size≤gb322));have n8_:=zz ((by rw [hg];exact Nat.ne_of_lt (zG (g:=gb314) (o:= .cells #[.slice A0_0 l0_0.length c0_0,.slice A0_1 l0_1.length c0_1] 37 (0,0)) (zq0 BK314.out)):gb314≠gb322));have n9_:=zz ((by rw [hg];exact Nat.ne_of_gt (zG (g:=gb314) (o:= .cells #[.slice A0_0 l0_0.length c0_0,.slice A0_1 l0_1.length c0_1] 37 (0,0)) (zq0 BK314.out)):gb322≠gb314));have n10_:=zz ((by rw [hg];exact Nat.ne_of_lt (zG (g:=gb315) (o:= .cells #[.slice none 0 0,.slice none 0 0] 37 (0,0)) (zq0 BK315.out)):gb315≠gb322));have n11_:=zz ((by rw [hg];exact Nat.ne_of_gt (zG (g:=gb315) (o:= .cells #[.slice none 0 0,.slice none 0 0] 37 (0,0)) (zq0 BK315.out)):gb322≠gb315));clear HO318;clear HO321;clear BK314;clear BK315;clear HB;have HO318:=n0_;have HO321:=n1_;have BK314:=n2_;have BK315:=n3_;have HB:=n4_;have BK322:=n5_;have GW322:=n6_;have GE322:=n7_;have NB314_322:=n8_;have NB322_314:=n9_;have NB315_322:=n10_;have NB322_315:=n11_;clear n0_ n1_ n2_ n3_ n4_ n5_ n6_ n7_ n8_ n9_ n10_ n11_;clear hb hbox hg;obtain ⟨Ao50,co50,eo50⟩:=Kd.R_slice HO318.out;subst eo50;have hnb51:=NB322_314.out;have hnc51:=NB314_322.out;have hnb52:=NB322_315.out;have hnc52:=NB315_322.out;have hcz53_0:w49.cell? ⟨gb322,0,none⟩=some (.slice none 0 0):=(ze BK322.out 0).trans rfl;have hcz53_1:w49.cell? ⟨gb322,1,none⟩=some (.slice none 0 0):=(ze BK322.out 1).trans rfl;have hfz53_0:=zd BK322.out 0;have hfz53_1:=zd BK322.out 1;obtain ⟨Ao54,co54,eo54⟩:=Kd.R_slice HO321.out;subst eo54;have hcz55_0:w49.cell? ⟨gb314,0,none⟩=some (.slice A0_0 l0_0.length c0_0):=(ze BK314.out 0).trans rfl;have hcz55_1:w49.cell? ⟨gb314,1,none⟩=some (.slice A0_1 l0_1.length c0_1):=(ze BK314.out 1).trans rfl;have hfz55_0:=zd BK314.out 0;have hfz55_1:=zd BK314.out 1)|((with_reducible refine zB (f:=83) rfl ?_);refine zO (some 12) rfl rfl Tryz.func83 zq7 rfl #[.agg #[.slice A0_0 l0_0.length c0_0,.slice A0_1 l0_1.length c0_1]] rfl zq4 ?_;(with_reducible refine (spec_DiskOk.calls k _ _ l0_0 _ _ l0_1 true _ ?side1 ?side2 ?side3 ?side4 A5.out).mono ?_);(case side1=>exact Kd.C_below HR0_0.out (zq6 GE314.out GE315.out GE322.out));(case side2=>exact HC0_0.out);(case side3=>exact Kd.C_below HR0_1.out (zq6 GE314.out GE315.out GE322.out));(case side4=>exact HC0_1.out);rintro e w56 ⟨rfl,hb⟩;refine ⟨_,rfl,?_⟩;have n0_:=zz (Kd.R_below (zq37 HO318.out BK322.out) hb);have n1_:=zz (Kd.R_below (zq37 HO321.out BK322.out) hb);have n2_:=zz (zu (g:=gb314) (o:= .cells #[.slice A0_0 l0_0.length c0_0,.slice A0_1 l0_1.length c0_1] 37 (0,0)) (by (with_reducible repeat (first|refine zj ?_ _|refine zl ?_|refine zh ?_ _));refine zH ?_ NB314_322.out _;(with_reducible repeat (first|refine zj ?_ _|refine zl ?_|refine zh ?_ _));refine zH ?_ NB314_322.out _;(with_reducible repeat (first|refine zj ?_ _|refine zl ?_|refine zh ?_ _));exact BK314.out) hb);have n3_:=zz (zu (g:=gb315) (o:= .cells #[.slice none 0 0,.slice none 0 0] 37 (0,0)) (by (with_reducible repeat (first|refine zj ?_ _|refine zl ?_|refine zh ?_ _));refine zH ?_ NB315_322.out _;(with_reducible repeat (first|refine zj ?_ _|refine zl ?_|refine zh ?_ _));refine zH ?_ NB315_322.out _;(with_reducible repeat (first|refine zj ?_ _|refine zl ?_|refine zh ?_ _));exact BK315.out) hb);have n4_:=zz (zu (g:=gb322) (o:= .cells #[.slice Ao50 t316.length co50,.slice Ao54 t319.length co54] 37 (0,0)) (by (with_reducible repeat (first|refine zj ?_ _|refine zl ?_|refine zh ?_ _));refine zL (cs:= #[.slice Ao50 t316.length co50,.slice none 0 0]) ?_ 1 _ rfl;(with_reducible repeat (first|refine zj ?_ _|refine zl ?_|refine zh ?_ _));refine zL (cs:= #[.slice none 0 0,.slice none 0 0]) ?_ 0 _ rfl;(with_reducible repeat (first|refine zj ?_ _|refine zl ?_|refine zh ?_ _));exact BK322.out) hb);have n5_:=zz (zk (zq6 GE314.out GE315.out GE322.out) hb);clear HO318;clear HO321;clear BK314;clear BK315;clear BK322;clear HB;have HO318:=n0_;have HO321:=n1_;have BK314:=n2_;have BK315:=n3_;have BK322:=n4_;have HB:=n5_;clear n0_ n1_ n2_ n3_ n4_ n5_;(try clear hb);(try clear hb2);(try clear hk);(try clear hi);have hcz57_0:w56.cell? ⟨gb314,0,none⟩=some (.slice A0_0 l0_0.length c0_0):=(ze BK314.out 0).trans rfl;have hcz57_1:w56.cell? ⟨gb314,1,none⟩=some (.slice A0_1 l0_1.length c0_1):=(ze BK314.out 1).trans rfl;have hfz57_0:=zd BK314.out 0;have hfz57_1:=zd BK314.out 1)|(go_at_call 77;(try simp only [zA]);(with_reducible refine (spec_l01In.calls a1 0 (wrap64 ((l0_0.length:Int)-1)) true _ A7.out).mono ?_);rintro e w' ⟨rfl,⟨nd,rfl⟩⟩;(try (rw [drewN_self w56];generalize hq_:World.drewN w56 _=w56;have n0_:Z0 (Kd.R Kd.string 9 w56 w.heap.size (fun _=>True) (.slice Ao50 t316.length co50) t316):=⟨by rw [←hq_];exact (zq9 HO318.out)⟩;have n1_:Z0 (Kd.R k110 110 w56 w.heap.size (fun _=>True) (.slice Ao54 t319.length co54) t319):=⟨by rw [←hq_];exact (zq9 HO321.out)⟩;have n2_:Z0 (w56.heap[gb314]?=some (.cells #[.slice A0_0 l0_0.length c0_0,.slice A0_1 l0_1.length c0_1] 37 (0,0))):=⟨by rw [←hq_];exact (zq0 BK314.out)⟩;have n3_:Z0 (w56.heap[gb315]?=some (.cells #[.slice none 0 0,.slice none 0 0] 37 (0,0))):=⟨by rw [←hq_];exact (zq0 BK315.out)⟩;have n4_:Z0 (w56.heap[gb322]?=some (.cells #[.slice Ao50 t316.length co50,.slice Ao54 t319.length co54] 37 (0,0))):=⟨by rw [←hq_];exact (zq0 BK322.out)⟩;have n5_:Z0 (Below w.heap.size w w56):=⟨by rw [←hq_];exact (zq6 GE314.out GE315.out GE322.out)⟩;clear HO318 HO321 BK314 BK315 BK322 HB hq_;have HO318:=n0_;have HO321:=n1_;have BK314:=n2_;have BK315:=n3_;have BK322:=n4_;have HB:=n5_;clear n0_ n1_ n2_ n3_ n4_ n5_));(try (have zcz_gb314_0:w56.cell? ⟨gb314,0,none⟩=some (.slice A0_0 l0_0.length c0_0):=(ze BK314.out 0).trans rfl));(try (have zfz_gb314_0:=zd BK314.out 0));(try (have zcz_gb314_1:w56.cell? ⟨gb314,1,none⟩=some (.slice A0_1 l0_1.length c0_1):=(ze BK314.out 1).trans rfl));(try (have zfz_gb314_1:=zd BK314.out 1));(try (have zcz_gb322_0:w56.cell? ⟨gb322,0,none⟩=some (.slice Ao50 t316.length co50):=(ze BK322.out 0).trans rfl));(try (have zfz_gb322_0:=zd BK322.out 0));(try (have zcz_gb322_1:w56.cell? ⟨gb322,1,none⟩=some (.slice Ao54 t319.length co54):=(ze BK322.out 1).trans rfl));(try (have zfz_gb322_1:=zd BK322.out 1));have hcz58_0:w56.cell? ⟨gb322,0,none⟩=some (.slice Ao50 t316.length co50):=(ze BK322.out 0).trans rfl;have hcz58_1:w56.cell? ⟨gb322,1,none⟩=some (.slice Ao54 t319.length co54):=(ze BK322.out 1).trans rfl;have hfz58_0:=zd BK322.out 0;have hfz58_1:=zd BK322.out 1)|((with_reducible refine zQ (b:= .append) (xs:= #[.tmp 36,.tmp 40]) rfl ?_);(try (refine zya zq19 ?_;dsimp only));at_builtin;refine Kd.R_append k110 (w0:=w) w.heap.size rfl (.tmp 36) (.tmp 40) 35 110 (.agg #[(.int .i64 0),(.string ⟨#[]⟩)]) 24 rfl Tryz.underlying35 info110 rfl zq14 zq5 (.slice Ao54 t319.length co54) t319 (⟨a1,a2⟩:S110) [.int .i64 a1,.string a2] (fun _=>True) (fun _=>False) rfl rfl ?aP (fun _ hk=>hk.elim) ?aF ?aO ?aB ?aS ?aL ?_;(case aP=>exact k110_mkM _ _ _ (⟨a1,a2⟩:S110));(case aB=>exact (zq6 GE314.out GE315.out GE322.out));(case aF=>exact (fun _ _=>trivial));(case aO=>exact (zq9 HO321.out));(case aS=>exact (zi (zq6 GE314.out GE315.out GE322.out)));(case aL=>have:=LMc43.out;omega);intro v326 w59 ho hb hg hat;rw [←Ny325.out] at ho;have n0_:=zz (zI (g:=gb314) (o:= .cells #[.slice A0_0 l0_0.length c0_0,.slice A0_1 l0_1.length c0_1] 37 (0,0)) (zq0 BK314.out) hg (Kd.R_ne HO321.out BK314.out zq14));have n1_:=zz (zI (g:=gb315) (o:= .cells #[.slice none 0 0,.slice none 0 0] 37 (0,0)) (zq0 BK315.out) hg (Kd.R_ne HO321.out BK315.out zq14));have n2_:=zz (Kd.R_over' (zq9 HO318.out) (Kd.R_typed (zq9 HO321.out)) zq14 hg);have n3_:=zz (zI (g:=gb322) (o:= .cells #[.slice Ao50 t316.length co50,.slice Ao54 t319.length co54] 37 (0,0)) (zq0 BK322.out) hg (Kd.R_ne HO321.out BK322.out zq14));have n4_:=zz (hb);have n5_:=zz (ho);clear BK314;clear BK315;clear HO318;clear BK322;clear HB;clear HO321;have BK314:=n0_;have BK315:=n1_;have HO318:=n2_;have BK322:=n3_;have HB:=n4_;have HO327:=n5_;clear n0_ n1_ n2_ n3_ n4_ n5_;clear ho hb hg hat;obtain ⟨Ao60,co60,eo60⟩:=Kd.R_slice HO327.out;subst eo60;have hcz61_0:w59.cell? ⟨gb322,0,none⟩=some (.slice Ao50 t316.length co50):=(ze BK322.out 0).trans rfl;have hcz61_1:w59.cell? ⟨gb322,1,none⟩=some (.slice Ao54 t319.length co54):=(ze BK322.out 1).trans rfl;have hfz61_0:=zd BK322.out 0;have hfz61_1:=zd BK322.out 1;have hcz62_0:w59.cell? ⟨gb315,0,none⟩=some (.slice none 0 0):=(ze BK315.out 0).trans rfl;have hcz62_1:w59.cell? ⟨gb315,1,none⟩=some (.slice none 0 0):=(ze BK315.out 1).trans rfl;have hfz62_0:=zd BK315.out 0;have hfz62_1:=zd BK315.out 1))
      refine bodyPost_ret (results_ct rfl _ _ gb315 37 #[.slice Ao50 t316.length co50,.slice Ao60 y325.length co60] (0,0) _ rfl (by (with_reducible repeat (first|refine zj ?_ _|refine zl ?_|refine zh ?_ _));refine zL (cs:= #[.slice Ao50 t316.length co50,.slice none 0 0]) ?_ 1 _ rfl;(with_reducible repeat (first|refine zj ?_ _|refine zl ?_|refine zh ?_ _));refine zL (cs:= #[.slice none 0 0,.slice none 0 0]) ?_ 0 _ rfl;(with_reducible repeat (first|refine zj ?_ _|refine zl ?_|refine zh ?_ _));refine zH ?_ NB315_322.out _;(with_reducible repeat (first|refine zj ?_ _|refine zl ?_|refine zh ?_ _));exact BK315.out) Tryz.underlying37 rfl zq7) rfl ?_
      exact ⟨_,_,by first|rfl|(simp [zx,zw]<;>rfl)|(simp [*,zx,zw]<;>rfl),by (with_reducible repeat (first|apply Kd.R_alloc|apply Kd.R_drewN|apply Kd.R_drew));exact Kd.R_mono (Kd.R_far (p:=⟨gb315,1,none⟩) (Kd.R_far (p:=⟨gb315,0,none⟩) (Kd.R_far (p:=⟨gb322,1,none⟩) (Kd.R_types (Kd.R_types HO318.out BK322.out zq14) BK315.out zq14) (fun _ hk=>hk.1.2) (.slice Ao60 y325.length co60)) (fun _ hk=>hk.2) (.slice Ao50 t316.length co50)) (fun _ hk=>hk.2) (.slice Ao60 y325.length co60)) (fun _ hk=>trivial),by (with_reducible repeat (first|apply Kd.R_alloc|apply Kd.R_drewN|apply Kd.R_drew));exact Kd.R_mono (Kd.R_far (p:=⟨gb315,1,none⟩) (Kd.R_far (p:=⟨gb315,0,none⟩) (Kd.R_far (p:=⟨gb322,1,none⟩) (Kd.R_types (Kd.R_types HO327.out BK322.out zq14) BK315.out zq14) (fun _ hk=>hk.1.2) (.slice Ao60 y325.length co60)) (fun _ hk=>hk.2) (.slice Ao50 t316.length co50)) (fun _ hk=>hk.2) (.slice Ao60 y325.length co60)) (fun _ hk=>trivial),by repeat (first|(with_reducible first|exact HB.out|apply zg|apply zf|apply zm|refine zr ?_ GE314.out|refine zr ?_ GE315.out|refine zr ?_ GE322.out)|exact HB.out)⟩
     ·rw [if_neg c43] at H
      exact absurd H zq15
  ·replace c8:=Bool.eq_false_iff.mpr c8
   subst c8
   have H1:(some (t316,t319,false))=some (r1,r2,true):=by rw [if_neg (show ¬(false=true) by decide)] at H;exact H
   clear H
   have H:=H1
   clear H1
   simp only [Option.some.injEq,Prod.mk.injEq] at H
   exact absurd H.2.2 zq14
 ·replace c6:=Bool.eq_false_iff.mpr c6
  subst c6
  have H1:(some (t316,t319,false))=some (r1,r2,true):=by rw [if_neg (show ¬(false=true) by decide)] at H;exact H
  clear H
  have H:=H1
  clear H1
  simp only [Option.some.injEq,Prod.mk.injEq] at H
  exact absurd H.2.2 zq14
theorem writeS_t (k:Nat) (z z':(List ByteArray×List S110)) (a:Int) (t:ByteArray) {cs:List Value} (w:World) (h:kDisk.K w z cs) (hf:spec_WritePage.f k z.1 z.2 a t=some (z'.1,z'.2,true)):
  Calls Tryz.prog 38 #[.agg cs.toArray,.int .i64 a,.string t] w fun e w'=>∃ds:List Value,e= .returned (.tuple #[.agg ds.toArray,.bool true])∧kDisk.M w' w.heap.size (Fr w w') z' ds∧Below w.heap.size w w':=by
 obtain ⟨l0,l1⟩:=z
 obtain ⟨q0,q1⟩:=z'
 obtain ⟨A0,c0,A1,c1,rfl,m0,r0,m1,r1⟩:=zma h
 refine (spec_WritePage.callsT k A0 c0 l0 A1 c1 l1 a t q0 q1 w r0 m0 r1 m1 hf).mono ?_
 rintro e w' ⟨v0,v1,rfl,R0,R1,hb⟩
 have T0:=Own.R_tightB rfl R0
 have T1:=Own.R_tightB rfl R1
 exact ⟨[v0,v1],rfl,zSa T0.1 T1.1 T0.2.1 T1.2.1 (Own.types_ne T0.2.2 T1.2.2 zq14),hb⟩
theorem metaTextI_c (k:Nat) (x:S40) (t:ByteArray) (ok:Bool) {cs:List Value} (w:World) (h:k40.K w x cs) (ft:∃(vt:Int→ByteArray) (sl:ByteArray→ByteArray),TxF k vt sl∧MTxt vt sl x t ok):Calls Tryz.prog 92 #[.agg cs.toArray] w fun e w'=>e= .returned (.tuple #[.string t,.bool ok])∧Below w.heap.size w w':=by
 obtain ⟨vt,sl,T,hm⟩:=ft
 exact zIa T x t ok w h hm
theorem idleI_d (y:S40) (l0:List ByteArray) (l1:List S110) (l2:Int) (l3 l4 l5:List Int) (n:Int) (b:Bool) {cs:List Value} (w:World) (h:kTxn.K w (y,(l0,l1,l2,l3,l4,l5),n) cs) (hb:zab (y,(l0,l1,l2,l3,l4,l5),n)=b):Calls Tryz.prog 42 #[.agg cs.toArray] w fun e w'=>e= .returned (.bool b)∧Below w.heap.size w w':=by
 rw [←hb]
 exact idleI_c y l0 l1 l2 l3 l4 l5 n w h
def metaWritten_t_T2:Bool×List (List Nat×List Nat):=(true,[([],[]),([0],[0]),([1],[1]),([2],[2]),([],[]),([4],[4]),([5,3],[5]),([],[]),([3,6,7,6],[3,6,7]),([8],[8]),([8],[8]),([9,8,0,1,2,3,4,5,6,7,8,9,10],[9]),([10,11,0,1,2,3,4,5,6,7,8,9,10,11],[10])])
def metaWritten_t_B2:List Nat:=[0,1,3,7,0,16,63,0,255,511,511,2047,4095]
theorem metaWritten_t_ok2_0:regT (zkb Tryz.f47 2) metaWritten_t_T2 metaWritten_t_B2 [] (.p 0 (.p 1 (.t 2 (.p 4 (.t 5 (.p 7 (.e 3 (.e 6 (.e 8 (.p 9 (.p 10 (.e 11 (.p 12 .d)))))))))))))=true:=by kernel_rfl
theorem metaWritten_t (k:Nat) (y:S40) (l0:List ByteArray) (l1:List S110) (l2:Int) (l3 l4 l5:List Int) (n:Int) (x:S40) (t:ByteArray) (ok:Bool) (e0:List ByteArray) (e1:List S110) (z:(List ByteArray×List S110)) {cs cx:List Value} (w:World) (h:kTxn.K w (y,(l0,l1,l2,l3,l4,l5),n) cs) (h2:k40.K w x cx) (ft:∃(vt:Int→ByteArray) (sl:ByteArray→ByteArray),TxF k vt sl∧MTxt vt sl x t ok) (fs:impl_SyncDisk.f k l0 l1=some (e0,e1)) (fx:0≤x.f0∧x.f0≤100000) (fw:impl_WritePage.f e0 e1 (x.f0%2) t=some (z.1,z.2,true)):
  Calls Tryz.prog 47 #[.agg cs.toArray,.agg cx.toArray] w fun e w'=>∃ds:List Value,e= .returned (.tuple #[.agg ds.toArray,.bool true])∧kDisk.M w' w.heap.size (Fr w w') z ds∧Below w.heap.size w w':=by
 have KS0:=h
 obtain ⟨cM,_,rfl,hM,cW_,cI,rfl,hW_,hI⟩:=h
 obtain rfl:cI=[.int .i64 n]:=hI
 obtain ⟨u0,_,rfl,hU0,u1,cW2,rfl,hU1,hW2⟩:=hW_
 have hV0:=hU0
 have hV1:=hU1
 obtain ⟨B0,d0,rfl,-,-⟩:=hU0
 obtain ⟨B1,d1,rfl,-,-⟩:=hU1
 obtain ⟨cs,hcs⟩:∃cs,cs=cM++([.slice B0 l0.length d0]++([.slice B1 l1.length d1]++(cW2++[.int .i64 n]))):=⟨_,rfl⟩
 simp only [List.append_assoc] at KS0 ⊢
 rw [←hcs] at KS0 ⊢
 have Ecs:=zz hcs
 have KS:=zz KS0
 have KM:=zz hM;have KW0:=zz (show (Own.srow 9 Kd.string).K w l0 [.slice B0 l0.length d0] from hV0);have KW1:=zz (show (Own.srow 110 k110).K w l1 [.slice B1 l1.length d1] from hV1);have KW2:=zz hW2
 have LM:=zz (show cM.length=4 from Kd.K_len _ hM);have LW2:=zz (show cW2.length=4 from Kd.K_len _ hW2);have Lcs:=zz (show cs.length=11 from Kd.K_len _ KS0)
 have FT:=zz ft;clear ft
 have FS:=zz fs;clear fs
 have FX:=zz fx;clear fx
 have FW:=zz fw;clear fw
 clear KS0 hM hV0 hV1 hW2 hcs
 have Kx0:=h2
 obtain ⟨Ax,kx,rfl,-,-⟩:=zMa h2
 obtain ⟨cx,hcx⟩:∃cs:List Value,cs=[.int .i64 x.f0,.int .i64 x.f1,.int .i64 x.f2,.slice Ax x.f3.length kx]:=⟨_,rfl⟩
 rw [←hcx] at Kx0 ⊢
 have Ex:=zz (show cx=([.int .i64 x.f0]:List Value)++(([.int .i64 x.f1]:List Value)++(([.int .i64 x.f2]:List Value)++([.slice Ax x.f3.length kx]:List Value))) from hcx);have Kx:=zz Kx0;have Lx:=zz (show cx.length=4 from Kd.K_len _ Kx0);clear hcx Kx0
 have O:=zz (Nat.le_refl w.heap.size)
 have E:=zz (Env.start w)
 go_enter Tryz.func47,Tryz.ntmps47
 go_wp2_with (first|((with_reducible refine zv (N:=9) rfl ?_);replace O:=zz (And.intro E.out.le O.out);replace E:=zz (E.out.alloc cs 46 (g:=w.heap.size) rfl);replace E:=zz (E.out.alloc cx 40 (g:=(w.heap.size+1)) zq15);replace E:=zz (E.out.alloc [.slice none 0 0,.slice none 0 0] 37 (g:=(w.heap.size+1+1)) zq15);refine zy rfl 40 _ rfl (w.heap.size+1) 0 [] cx [] _ rfl (E.out.box 1 rfl) zq8 (rfl) Tryz.underlying40 rfl (by rw [Lx.out];kernel_rfl) ?_))
 ((with_reducible refine (metaTextI_c k x t ok _ (E.out.K Kx.out) FT.out).mono ?_);rintro e w1_ ⟨rfl,hb⟩)
 replace E:=zz (E.out.call hb);clear hb
 go_upto_region 2 with (fail)
 replace E:=zz E.out.drew
 refine zgb metaWritten_t_ok2_0 (S:=fun w'=>w'.heap[w.heap.size]?=some (.cells (cs:List Value).toArray 46 (0,0))∧w'.heap[(w.heap.size+1)]?=some (.cells (cx:List Value).toArray 40 (0,0))∧True) zq7 (fun _ _ _ _ h=>h) ⟨(E.out.box 2 rfl),(E.out.box 1 rfl),trivial⟩ (fun hHeld=> ?_)
 generalize hq:World.drew _=w2_ at hHeld ⊢;replace E:=E.out.to hq;clear hq
 iterate 2 (refine zua (v:= ?_) (a':= ?_) rfl rfl (Or.inl ⟨by rfl,?_⟩) ?_ ?_;rotate_left;(· intro w';go_simp;with_reducible rfl);rotate_left;(· show Act.put _ (some _) _=_;simp only [Act.put,s_A,s_0,s_1,zA];try rfl))
 refine zNa (a':= ?ax3_) rfl rfl zq19 37 _ rfl w.heap.size 4 cM [.slice B0 l0.length d0,.slice B1 l1.length d1] (cW2++[.int .i64 n]) _ rfl (fun w' hs=>hs.1) zq29 (LM.out) Tryz.underlying37 rfl zq7 ?px3_ ?kx3_
 case px3_=>(show Act.put _ (some _) _=_;simp only [Act.put,s_A,s_0,s_1,zA];try rfl)
 (refine zua (v:= ?_) (a':= ?_) rfl rfl (Or.inl ⟨by rfl,?_⟩) ?_ ?_;rotate_left;(· intro w';go_simp;with_reducible rfl);rotate_left;(· show Act.put _ (some _) _=_;simp only [Act.put,s_A,s_0,s_1,zA];try rfl))
 refine zza (a':= ?ax4_) rfl rfl zq19 3 _ rfl (w.heap.size+1) 0 [] (.int .i64 x.f0) ([.int .i64 x.f1]++([.int .i64 x.f2]++[.slice Ax x.f3.length kx])) _ rfl (fun w' hs=>hs.2.1) (by rw [Ex.out];first|done|rfl|(simp only [aA,aN,aL];first|done|rfl)) (rfl) Tryz.underlying3 rfl ?px4_ ?kx4_
 case px4_=>(show Act.put _ (some _) _=_;simp only [Act.put,s_A,s_0,s_1,zA];try rfl)
 (refine zua (v:= ?_) (a':= ?_) rfl rfl (Or.inl ⟨by rfl,?_⟩) ?_ ?_;rotate_left;(· intro w';go_simp;with_reducible rfl);rotate_left;(· show Act.put _ (some _) _=_;simp only [Act.put,s_A,s_0,s_1,zA];try rfl))
 refine zQa rfl (zZ rfl Tryz.func43 zq7 rfl #[.agg [.slice B0 l0.length d0,.slice B1 l1.length d1].toArray] zq19 rfl zq13 ?_)
 with_reducible refine (implSync_o k l0 l1 e0 e1 _ (zta (E.out.K KW0.out) (E.out.K KW1.out)) FS.out).mono ?_
 rintro e w5_ ⟨d6_,rfl,Md6_,hb⟩
 have q:=E.out.made4 O.out 2 rfl Md6_ hb;clear O E Md6_ hb;obtain ⟨n7_,m8_,Ld6_,Od6_,O,E⟩:=q
 refine ⟨_,rfl,⟨(E.out.box 3 rfl),(E.out.box 2 rfl),trivial⟩,(fun hHeld=> ?_)⟩
 refine zK (a':= ?_) ?_ ?_;rotate_left;(· show Act.put _ (some 16) _=_;simp only [Act.put,s_A,s_0,s_1,zA];try rfl)
 refine zQa rfl (zZ rfl Tryz.func96 zq7 rfl #[.int .i64 x.f0] zq19 rfl zq13 ?_)
 with_reducible refine (pageI_c x.f0 _ FX.out).mono ?_
 rintro e w9_ ⟨rfl,hb⟩
 replace E:=zz (E.out.call hb);clear hb
 refine ⟨_,rfl,⟨(E.out.box 3 rfl),(E.out.box 2 rfl),trivial⟩,(fun hHeld=> ?_)⟩
 refine zK (a':= ?_) ?_ ?_;rotate_left;(· show Act.put _ (some 19) _=_;simp only [Act.put,s_A,s_0,s_1,zA];try rfl)
 refine zQa rfl (zZ rfl Tryz.func95 zq7 rfl #[.agg d6_.toArray,.int .i64 (x.f0%2),.string t] zq19 rfl zq13 ?_)
 with_reducible refine (writeI_t k (e0,e1) z (x.f0%2) t _ (E.out.mk_ 0 rfl) FW.out).mono ?_
 rintro e w10_ ⟨d11_,rfl,Md11_,hb⟩
 have q:=E.out.made4 O.out 2 rfl Md11_ hb;clear O E Md11_ hb;obtain ⟨n12_,m13_,Ld11_,Od11_,O,E⟩:=q
 refine ⟨_,rfl,⟨(E.out.box 4 rfl),(E.out.box 3 rfl),trivial⟩,(fun hHeld=> ?_)⟩
 refine zK (a':= ?_) ?_ ?_;rotate_left;(· show Act.put _ (some 21) _=_;simp only [Act.put,s_A,s_0,s_1,zA];try rfl)
 iterate 2 (refine zua (v:= ?_) (a':= ?_) rfl rfl (Or.inl ⟨by rfl,?_⟩) ?_ ?_;rotate_left;(· intro w';go_simp;with_reducible rfl);rotate_left;(· show Act.put _ (some _) _=_;simp only [Act.put,s_A,s_0,s_1,zA];try rfl))
 refine zQa rfl (zT rfl zq19 37 _ _ rfl (w.heap.size+1+1) 0 d11_ [] [.slice none 0 0,.slice none 0 0] [] rfl rfl (E.out.box 2 rfl) zq8 (rfl) (by rw [Ld11_.out];rfl) (by rw [Ld11_.out];kernel_rfl) Od11_.out (fun W14_ hp hn=> ?_))
 replace E:=E.out.put2 2 hp hn zq10;clear hp hn
 refine ⟨⟨(E.out.box 4 rfl),(E.out.box 3 rfl),trivial⟩,(fun hHeld=> ?_)⟩
 (refine zua (v:= ?_) (a':= ?_) rfl rfl (Or.inl ⟨by rfl,?_⟩) ?_ ?_;rotate_left;(· intro w';go_simp;with_reducible rfl);rotate_left;(· show Act.put _ (some _) _=_;simp only [Act.put,s_A,s_0,s_1,zA];try rfl))
 refine zAa ?_
 clear hHeld
 go_wp2_with fail
 have BX:=zz (show _=some (Obj.cells (d11_:List Value).toArray 37 (0,0)) from by first|exact (E.out.box 2 rfl)|simpa only [aA,aN,aL] using (E.out.box 2 rfl))
 refine bodyPost_ret (zha (rs:=[.cell 4 37,.tmp 5]) rfl zq15 (.cell (w.heap.size+1+1) 37 _ _ _ rfl BX.out Tryz.underlying37 rfl (by rw [List.size_toArray,show (d11_:List Value).length=2 from Ld11_.out];kernel_rfl) (.tmp .nil))) rfl ?_
 exact ⟨_,rfl,(zjb (d:=kDisk) (E.out.made 0 rfl) (Nat.le_refl _)),E.out.below⟩
def metaWritten_f_T2:Bool×List (List Nat×List Nat):=(true,[([],[]),([0],[0]),([1],[1]),([2],[2]),([],[]),([4],[4]),([5,3],[5]),([],[]),([3,6,7,6],[3,6,7]),([8],[8]),([8],[8]),([9,8,0,1,2,3,4,5,6,7,8,9,10],[9]),([10,11,0,1,2,3,4,5,6,7,8,9,10,11],[10])])
def metaWritten_f_B2:List Nat:=[0,1,3,7,0,16,63,0,255,511,511,2047,4095]
theorem metaWritten_f_ok2_0:regT (zkb Tryz.f47 2) metaWritten_f_T2 metaWritten_f_B2 [] (.p 0 (.p 1 (.t 2 (.p 4 (.t 5 (.p 7 (.e 3 (.e 6 (.e 8 (.p 9 (.p 10 (.e 11 (.p 12 .d)))))))))))))=true:=by kernel_rfl
theorem metaWritten_f (k:Nat) (y:S40) (l0:List ByteArray) (l1:List S110) (l2:Int) (l3 l4 l5:List Int) (n:Int) (x:S40) (t:ByteArray) (ok:Bool) (e0:List ByteArray) (e1:List S110) {cs cx:List Value} (w:World) (h:kTxn.K w (y,(l0,l1,l2,l3,l4,l5),n) cs) (h2:k40.K w x cx) (ft:∃(vt:Int→ByteArray) (sl:ByteArray→ByteArray),TxF k vt sl∧MTxt vt sl x t ok) (fs:impl_SyncDisk.f k l0 l1=some (e0,e1)) (fx:0≤x.f0∧x.f0≤100000) (fe:e0.length≤2000000∧e1.length≤2000000) (fd:impl_DiskOk.f e0 e1=some false):
  Calls Tryz.prog 47 #[.agg cs.toArray,.agg cx.toArray] w fun e w'=>∃ds:List Value,e= .returned (.tuple #[.agg ds.toArray,.bool false])∧kDisk.M w' w.heap.size (Fr w w') (e0,e1) ds∧Below w.heap.size w w':=by
 have KS0:=h
 obtain ⟨cM,_,rfl,hM,cW_,cI,rfl,hW_,hI⟩:=h
 obtain rfl:cI=[.int .i64 n]:=hI
 obtain ⟨u0,_,rfl,hU0,u1,cW2,rfl,hU1,hW2⟩:=hW_
 have hV0:=hU0
 have hV1:=hU1
 obtain ⟨B0,d0,rfl,-,-⟩:=hU0
 obtain ⟨B1,d1,rfl,-,-⟩:=hU1
 obtain ⟨cs,hcs⟩:∃cs,cs=cM++([.slice B0 l0.length d0]++([.slice B1 l1.length d1]++(cW2++[.int .i64 n]))):=⟨_,rfl⟩
 simp only [List.append_assoc] at KS0 ⊢
 rw [←hcs] at KS0 ⊢
 have Ecs:=zz hcs
 have KS:=zz KS0
 have KM:=zz hM;have KW0:=zz (show (Own.srow 9 Kd.string).K w l0 [.slice B0 l0.length d0] from hV0);have KW1:=zz (show (Own.srow 110 k110).K w l1 [.slice B1 l1.length d1] from hV1);have KW2:=zz hW2
 have LM:=zz (show cM.length=4 from Kd.K_len _ hM);have LW2:=zz (show cW2.length=4 from Kd.K_len _ hW2);have Lcs:=zz (show cs.length=11 from Kd.K_len _ KS0)
 have FT:=zz ft;clear ft
 have FS:=zz fs;clear fs
 have FX:=zz fx;clear fx
 have FE:=zz fe;clear fe
 have FD:=zz fd;clear fd
 clear KS0 hM hV0 hV1 hW2 hcs
 have Kx0:=h2
 obtain ⟨Ax,kx,rfl,-,-⟩:=zMa h2
 obtain ⟨cx,hcx⟩:∃cs:List Value,cs=[.int .i64 x.f0,.int .i64 x.f1,.int .i64 x.f2,.slice Ax x.f3.length kx]:=⟨_,rfl⟩
 rw [←hcx] at Kx0 ⊢
 have Ex:=zz (show cx=([.int .i64 x.f0]:List Value)++(([.int .i64 x.f1]:List Value)++(([.int .i64 x.f2]:List Value)++([.slice Ax x.f3.length kx]:List Value))) from hcx);have Kx:=zz Kx0;have Lx:=zz (show cx.length=4 from Kd.K_len _ Kx0);clear hcx Kx0
 have O:=zz (Nat.le_refl w.heap.size)
 have E:=zz (Env.start w)
 go_enter Tryz.func47,Tryz.ntmps47
 go_wp2_with (first|((with_reducible refine zv (N:=9) rfl ?_);replace O:=zz (And.intro E.out.le O.out);replace E:=zz (E.out.alloc cs 46 (g:=w.heap.size) rfl);replace E:=zz (E.out.alloc cx 40 (g:=(w.heap.size+1)) zq15);replace E:=zz (E.out.alloc [.slice none 0 0,.slice none 0 0] 37 (g:=(w.heap.size+1+1)) zq15);refine zy rfl 40 _ rfl (w.heap.size+1) 0 [] cx [] _ rfl (E.out.box 1 rfl) zq8 (rfl) Tryz.underlying40 rfl (by rw [Lx.out];kernel_rfl) ?_))
 ((with_reducible refine (metaTextI_c k x t ok _ (E.out.K Kx.out) FT.out).mono ?_);rintro e w1_ ⟨rfl,hb⟩)
 replace E:=zz (E.out.call hb);clear hb
 go_upto_region 2 with (fail)
 replace E:=zz E.out.drew
 refine zgb metaWritten_f_ok2_0 (S:=fun w'=>w'.heap[w.heap.size]?=some (.cells (cs:List Value).toArray 46 (0,0))∧w'.heap[(w.heap.size+1)]?=some (.cells (cx:List Value).toArray 40 (0,0))∧True) zq7 (fun _ _ _ _ h=>h) ⟨(E.out.box 2 rfl),(E.out.box 1 rfl),trivial⟩ (fun hHeld=> ?_)
 generalize hq:World.drew _=w2_ at hHeld ⊢;replace E:=E.out.to hq;clear hq
 iterate 2 (refine zua (v:= ?_) (a':= ?_) rfl rfl (Or.inl ⟨by rfl,?_⟩) ?_ ?_;rotate_left;(· intro w';go_simp;with_reducible rfl);rotate_left;(· show Act.put _ (some _) _=_;simp only [Act.put,s_A,s_0,s_1,zA];try rfl))
 refine zNa (a':= ?ax3_) rfl rfl zq19 37 _ rfl w.heap.size 4 cM [.slice B0 l0.length d0,.slice B1 l1.length d1] (cW2++[.int .i64 n]) _ rfl (fun w' hs=>hs.1) zq29 (LM.out) Tryz.underlying37 rfl zq7 ?px3_ ?kx3_
 case px3_=>(show Act.put _ (some _) _=_;simp only [Act.put,s_A,s_0,s_1,zA];try rfl)
 (refine zua (v:= ?_) (a':= ?_) rfl rfl (Or.inl ⟨by rfl,?_⟩) ?_ ?_;rotate_left;(· intro w';go_simp;with_reducible rfl);rotate_left;(· show Act.put _ (some _) _=_;simp only [Act.put,s_A,s_0,s_1,zA];try rfl))
 refine zza (a':= ?ax4_) rfl rfl zq19 3 _ rfl (w.heap.size+1) 0 [] (.int .i64 x.f0) ([.int .i64 x.f1]++([.int .i64 x.f2]++[.slice Ax x.f3.length kx])) _ rfl (fun w' hs=>hs.2.1) (by rw [Ex.out];first|done|rfl|(simp only [aA,aN,aL];first|done|rfl)) (rfl) Tryz.underlying3 rfl ?px4_ ?kx4_
 case px4_=>(show Act.put _ (some _) _=_;simp only [Act.put,s_A,s_0,s_1,zA];try rfl)
 (refine zua (v:= ?_) (a':= ?_) rfl rfl (Or.inl ⟨by rfl,?_⟩) ?_ ?_;rotate_left;(· intro w';go_simp;with_reducible rfl);rotate_left;(· show Act.put _ (some _) _=_;simp only [Act.put,s_A,s_0,s_1,zA];try rfl))
 refine zQa rfl (zZ rfl Tryz.func43 zq7 rfl #[.agg [.slice B0 l0.length d0,.slice B1 l1.length d1].toArray] zq19 rfl zq13 ?_)
 with_reducible refine (implSync_o k l0 l1 e0 e1 _ (zta (E.out.K KW0.out) (E.out.K KW1.out)) FS.out).mono ?_
 rintro e w5_ ⟨d6_,rfl,Md6_,hb⟩
 have q:=E.out.made4 O.out 2 rfl Md6_ hb;clear O E Md6_ hb;obtain ⟨n7_,m8_,Ld6_,Od6_,O,E⟩:=q
 refine ⟨_,rfl,⟨(E.out.box 3 rfl),(E.out.box 2 rfl),trivial⟩,(fun hHeld=> ?_)⟩
 refine zK (a':= ?_) ?_ ?_;rotate_left;(· show Act.put _ (some 16) _=_;simp only [Act.put,s_A,s_0,s_1,zA];try rfl)
 refine zQa rfl (zZ rfl Tryz.func96 zq7 rfl #[.int .i64 x.f0] zq19 rfl zq13 ?_)
 with_reducible refine (pageI_c x.f0 _ FX.out).mono ?_
 rintro e w9_ ⟨rfl,hb⟩
 replace E:=zz (E.out.call hb);clear hb
 refine ⟨_,rfl,⟨(E.out.box 3 rfl),(E.out.box 2 rfl),trivial⟩,(fun hHeld=> ?_)⟩
 refine zK (a':= ?_) ?_ ?_;rotate_left;(· show Act.put _ (some 19) _=_;simp only [Act.put,s_A,s_0,s_1,zA];try rfl)
 refine zQa rfl (zZ rfl Tryz.func95 zq7 rfl #[.agg d6_.toArray,.int .i64 (x.f0%2),.string t] zq19 rfl zq13 ?_)
 with_reducible refine (writeI_no k e0 e1 (x.f0%2) t _ (E.out.mk_ 0 rfl) FE.out FD.out).mono ?_
 rintro e w10_ ⟨d11_,rfl,Md11_,hb⟩
 have q:=E.out.made4 O.out 2 rfl Md11_ hb;clear O E Md11_ hb;obtain ⟨n12_,m13_,Ld11_,Od11_,O,E⟩:=q
 refine ⟨_,rfl,⟨(E.out.box 4 rfl),(E.out.box 3 rfl),trivial⟩,(fun hHeld=> ?_)⟩
 refine zK (a':= ?_) ?_ ?_;rotate_left;(· show Act.put _ (some 21) _=_;simp only [Act.put,s_A,s_0,s_1,zA];try rfl)
 iterate 2 (refine zua (v:= ?_) (a':= ?_) rfl rfl (Or.inl ⟨by rfl,?_⟩) ?_ ?_;rotate_left;(· intro w';go_simp;with_reducible rfl);rotate_left;(· show Act.put _ (some _) _=_;simp only [Act.put,s_A,s_0,s_1,zA];try rfl))
 refine zQa rfl (zT rfl zq19 37 _ _ rfl (w.heap.size+1+1) 0 d11_ [] [.slice none 0 0,.slice none 0 0] [] rfl rfl (E.out.box 2 rfl) zq8 (rfl) (by rw [Ld11_.out];rfl) (by rw [Ld11_.out];kernel_rfl) Od11_.out (fun W14_ hp hn=> ?_))
 replace E:=E.out.put2 2 hp hn zq10;clear hp hn
 refine ⟨⟨(E.out.box 4 rfl),(E.out.box 3 rfl),trivial⟩,(fun hHeld=> ?_)⟩
 (refine zua (v:= ?_) (a':= ?_) rfl rfl (Or.inl ⟨by rfl,?_⟩) ?_ ?_;rotate_left;(· intro w';go_simp;with_reducible rfl);rotate_left;(· show Act.put _ (some _) _=_;simp only [Act.put,s_A,s_0,s_1,zA];try rfl))
 refine zAa ?_
 clear hHeld
 go_wp2_with fail
 have BX:=zz (show _=some (Obj.cells (d11_:List Value).toArray 37 (0,0)) from by first|exact (E.out.box 2 rfl)|simpa only [aA,aN,aL] using (E.out.box 2 rfl))
 refine bodyPost_ret (zha (rs:=[.cell 4 37,.tmp 5]) rfl zq15 (.cell (w.heap.size+1+1) 37 _ _ _ rfl BX.out Tryz.underlying37 rfl (by rw [List.size_toArray,show (d11_:List Value).length=2 from Ld11_.out];kernel_rfl) (.tmp .nil))) rfl ?_
 exact ⟨_,rfl,(zjb (d:=kDisk) (E.out.made 0 rfl) (Nat.le_refl _)),E.out.below⟩
theorem metaTextS_c (k:Nat) (x:S40) (t:ByteArray) (ok:Bool) {cs:List Value} (w:World) (h:k40.K w x cs) (ft:∃(vt:Int→ByteArray) (sl:ByteArray→ByteArray),TxF k vt sl∧MTxt vt sl x t ok):Calls Tryz.prog 37 #[.agg cs.toArray] w fun e w'=>e= .returned (.tuple #[.string t,.bool ok])∧Below w.heap.size w w':=by
 obtain ⟨vt,sl,T,hm⟩:=ft
 exact zKa T x t ok w h hm
theorem idleS_d (y:S40) (l0:List ByteArray) (l1:List S110) (l2:Int) (l3 l4 l5:List Int) (n:Int) (b:Bool) {cs:List Value} (w:World) (h:kTxn.K w (y,(l0,l1,l2,l3,l4,l5),n) cs) (hb:zab (y,(l0,l1,l2,l3,l4,l5),n)=b):Calls Tryz.prog 32 #[.agg cs.toArray] w fun e w'=>e= .returned (.bool b)∧Below w.heap.size w w':=by
 rw [←hb]
 exact idleS_c y l0 l1 l2 l3 l4 l5 n w h
theorem meta_lit {W:World} {base:Nat} {ok:Nat→Prop} {x:S40} {ds:List Value} (h:k40.M W base ok x ds):∃A c,ds=[.int .i64 x.f0]++([.int .i64 x.f1]++([.int .i64 x.f2]++[.slice A x.f3.length c])):=by
 obtain ⟨v3,rfl,R⟩:=k40_openM h
 obtain ⟨A,c,rfl⟩:=Kd.S_slice R
 exact ⟨A,c,rfl⟩
theorem fallI_c (k:Nat) (z:(List ByteArray×List S110)) (left:List Bool) (torn:Int) (q:(List ByteArray×List S110)) {cs:List Value} {v:Value} (w:World) (h:kDisk.K w z cs) (hl:(Own.srow 4 Kd.bool).K w left [v]) (hf:impl_FallDisk.f k z.1 z.2 left torn=some (q.1,q.2)):
  Calls Tryz.prog 60 #[.agg cs.toArray,v,.int .i64 torn] w fun e w'=>∃ds:List Value,e= .returned (.agg ds.toArray)∧kDisk.M w' w.heap.size (Fr w w') q ds∧Below w.heap.size w w':=by
 obtain ⟨l0,l1⟩:=z
 obtain ⟨q0,q1⟩:=q
 obtain ⟨A0,c0,A1,c1,rfl,m0,r0,m1,r1⟩:=zma h
 obtain ⟨A2,c2,hv,m2,r2⟩:=hl
 injection hv with hv
 subst hv
 refine (impl_FallDisk.calls k A0 c0 l0 A1 c1 l1 A2 c2 left torn q0 q1 w r0 m0 r1 m1 r2 m2 hf).mono ?_
 rintro e w' ⟨v0,v1,rfl,R0,R1,hb⟩
 have T0:=Own.R_tightB rfl R0
 have T1:=Own.R_tightB rfl R1
 exact ⟨[v0,v1],rfl,zSa T0.1 T1.1 T0.2.1 T1.2.1 (Own.types_ne T0.2.2 T1.2.2 zq14),hb⟩
theorem zib (k:Nat) (z:(List ByteArray×List S110)) (left:List Bool) (torn:Int) (q:(List ByteArray×List S110)) {cs:List Value} {v:Value} (w:World) (h:kDisk.K w z cs) (hl:(Own.srow 4 Kd.bool).K w left [v]) (hf:spec_FallDisk.f k z.1 z.2 left torn=some (q.1,q.2)):
  Calls Tryz.prog 59 #[.agg cs.toArray,v,.int .i64 torn] w fun e w'=>∃ds:List Value,e= .returned (.agg ds.toArray)∧kDisk.M w' w.heap.size (Fr w w') q ds∧Below w.heap.size w w':=by
 obtain ⟨l0,l1⟩:=z
 obtain ⟨q0,q1⟩:=q
 obtain ⟨A0,c0,A1,c1,rfl,m0,r0,m1,r1⟩:=zma h
 obtain ⟨A2,c2,hv,m2,r2⟩:=hl
 injection hv with hv
 subst hv
 refine (spec_FallDisk.calls k A0 c0 l0 A1 c1 l1 A2 c2 left torn q0 q1 w r0 m0 r1 m1 r2 m2 hf).mono ?_
 rintro e w' ⟨v0,v1,rfl,R0,R1,hb⟩
 have T0:=Own.R_tightB rfl R0
 have T1:=Own.R_tightB rfl R1
 exact ⟨[v0,v1],rfl,zSa T0.1 T1.1 T0.2.1 T1.2.1 (Own.types_ne T0.2.2 T1.2.2 zq14),hb⟩
theorem toBoolS_c (k:Nat) (z r:List Bool) {v:Value} (w:World) (h:(Own.srow 4 Kd.bool).K w z [v]) (hf:laws_toBoolS.f k z=some r):
  Calls Tryz.prog 19 #[v] w fun e w'=>∃u:Value,e= .returned u∧(Own.srow 4 Kd.bool).M w' w.heap.size (Fr w w') r [u]∧Below w.heap.size w w':=by
 obtain ⟨A0,c0,hv,m0,r0⟩:=h
 injection hv with hv
 subst hv
 refine (laws_toBoolS.calls k A0 c0 z r w r0 m0 hf).mono ?_
 rintro e w' ⟨u,rfl,R,hb⟩
 exact ⟨u,rfl,made_of_R rfl R,hb⟩
theorem eqBoolS_c (k:Nat) (z:List Bool) {v u:Value} (w:World) (h0:(Own.srow 4 Kd.bool).K w z [v]) (h1:(Own.srow 4 Kd.bool).K w z [u]) (hf:laws_eqBoolS.f k z z=some true):
  Calls Tryz.prog 21 #[v,u] w fun e w'=>e= .returned (.bool true)∧Below w.heap.size w w':=by
 obtain ⟨A0,c0,hv,m0,r0⟩:=h0
 injection hv with hv
 subst hv
 obtain ⟨A1,c1,hv,m1,r1⟩:=h1
 injection hv with hv
 subst hv
 refine (laws_eqBoolS.calls k A0 c0 z A1 c1 z true w r0 m0 r1 m1 hf).mono ?_
 rintro e w' ⟨he,hb⟩
 exact ⟨he,by first|exact hb|exact hb.below⟩
theorem markBoolS_c (k:Nat) (z:List Bool) (a:Int) (z':List Bool) (r:Int) (ok:Nat→Prop) {v:Value} (w0 w:World) (hB:Below w0.heap.size w0 w) (hk:∀k,ok k→k<w.heap.size) (h:(Own.srow 4 Kd.bool).M w w0.heap.size ok z [v]) (hf:laws_markBoolS.f k z a=some (r,z')):
  Calls Tryz.prog 22 #[v,.int .i64 a] w fun e w'=>e= .returned (.int .i64 r)∧(Own.srow 4 Kd.bool).M w' w0.heap.size ok z' [v]∧Below w0.heap.size w0 w'∧Kept w w' ok:=by
 obtain ⟨v',hv,hS⟩:=h
 injection hv with hv
 subst hv
 have hR:=Kd.S_R hS
 refine (laws_markBoolS.calls k ok _ z a r z' w0 w hB hR hf).mono ?_
 rintro e w' ⟨rfl,G,hB1,hK1⟩
 exact ⟨rfl,(Own.srow 4 Kd.bool).M_mono (fun k hk=>hR.1 k hk.symm) (Own.srow_of_R rfl (Own.R_tight2 rfl G hR.1)),hB1,hK1⟩
theorem cutI_1 (k:Nat) (y:S40) (l0:List ByteArray) (l1:List S110) (l2:Int) (l3 l4 l5:List Int) (n:Int) (stage:Int) (left:List Bool) (torn:Int) (q:(List ByteArray×List S110)) (m:S40) {cs:List Value} {v:Value} (w:World) (h:kTxn.K w (y,(l0,l1,l2,l3,l4,l5),n) cs) (hl:(Own.srow 4 Kd.bool).K w left [v]) (fn:ImplNM k (y,(l0,l1,l2,l3,l4,l5),n) m false) (ff:impl_FallDisk.f k l0 l1 left torn=some (q.1,q.2)):
  Calls Tryz.prog 20 #[.agg cs.toArray,.int .i64 stage,v,.int .i64 torn] w fun e w'=>∃ds:List Value,e= .returned (.agg ds.toArray)∧kDisk.M w' w.heap.size (Fr w w') q ds∧Below w.heap.size w w':=by
 have KS0:=h
 obtain ⟨cM,_,rfl,hM,cW_,cI,rfl,hW_,hI⟩:=h
 obtain rfl:cI=[.int .i64 n]:=hI
 obtain ⟨u0,_,rfl,hU0,u1,cW2,rfl,hU1,hW2⟩:=hW_
 have hV0:=hU0
 have hV1:=hU1
 obtain ⟨B0,d0,rfl,-,-⟩:=hU0
 obtain ⟨B1,d1,rfl,-,-⟩:=hU1
 obtain ⟨cs,hcs⟩:∃cs,cs=cM++([.slice B0 l0.length d0]++([.slice B1 l1.length d1]++(cW2++[.int .i64 n]))):=⟨_,rfl⟩
 simp only [List.append_assoc] at KS0 ⊢
 rw [←hcs] at KS0 ⊢
 have Ecs:=zz hcs
 have KS:=zz KS0
 have KM:=zz hM;have KW0:=zz (show (Own.srow 9 Kd.string).K w l0 [.slice B0 l0.length d0] from hV0);have KW1:=zz (show (Own.srow 110 k110).K w l1 [.slice B1 l1.length d1] from hV1);have KW2:=zz hW2
 have LM:=zz (show cM.length=4 from Kd.K_len _ hM);have LW2:=zz (show cW2.length=4 from Kd.K_len _ hW2);have Lcs:=zz (show cs.length=11 from Kd.K_len _ KS0)
 have FN:=zz fn;clear fn
 have FF:=zz ff;clear ff
 clear KS0 hM hV0 hV1 hW2 hcs
 have KL:=zz hl
 obtain ⟨AL,cL,hvl,-,-⟩:=hl
 injection hvl with hvl
 subst hvl
 have O:=zz (Nat.le_refl w.heap.size)
 have E:=zz (Env.start w)
 go_enter Tryz.func20,Tryz.ntmps20
 go_wp2_with (first|((with_reducible refine zv (N:=14) rfl ?_);replace O:=zz (And.intro E.out.le O.out);replace E:=zz (E.out.alloc cs 46 (g:=w.heap.size) rfl);replace E:=zz (E.out.alloc [.slice none 0 0,.slice none 0 0] 37 (g:=(w.heap.size+1)) zq15);refine zy rfl 46 _ rfl w.heap.size 0 [] cs [] _ rfl (E.out.box 1 rfl) zq8 (rfl) Tryz.underlying46 rfl zq28 ?_))
 ((with_reducible refine (implNM_c k (y,(l0,l1,l2,l3,l4,l5),n) m false _ (E.out.K KS.out) FN.out).mono ?_);rintro e w1_ ⟨d2_,rfl,Md2_,hb⟩)
 have q:=E.out.made4 O.out 4 rfl Md2_ hb;clear O E Md2_ hb;obtain ⟨n3_,m4_,Ld2_,Od2_,O,E⟩:=q
 go_wp2_with (first|((with_reducible refine zC (t:=40) (p:=9) rfl ?_);replace O:=zz (And.intro E.out.le O.out);replace E:=zz (E.out.alloc Z40 40 (g:=w1_.heap.size) rfl);refine zD rfl 40 _ _ rfl rfl w1_.heap.size 0 d2_ [] Z40 [] rfl rfl (E.out.box 0 rfl) zq8 (rfl) zq41 zq33 Od2_.out ?_;intro W5_ hp hn;replace E:=E.out.put2 0 hp hn zq10;clear hp hn)|((with_reducible refine zv (N:=30) rfl ?_);refine zy rfl 37 _ rfl w.heap.size 4 cM [.slice B0 l0.length d0,.slice B1 l1.length d1] (cW2++[.int .i64 n]) _ rfl (E.out.box 3 rfl) zq29 (LM.out) Tryz.underlying37 rfl zq7 ?_))
 ((with_reducible refine (fallI_c k (l0,l1) left torn q _ (zta (E.out.K KW0.out) (E.out.K KW1.out)) (E.out.K KL.out) FF.out).mono ?_);rintro e w6_ ⟨d7_,rfl,Md7_,hb⟩)
 have q:=E.out.made4 O.out 2 rfl Md7_ hb;clear O E Md7_ hb;obtain ⟨n8_,m9_,Ld7_,Od7_,O,E⟩:=q
 go_wp2_with (first|((with_reducible refine zC (t:=37) (p:=8) rfl ?_);refine zD rfl 37 _ _ rfl rfl (w.heap.size+1) 0 d7_ [] [.slice none 0 0,.slice none 0 0] [] rfl rfl (E.out.box 3 rfl) zq8 (rfl) (by rw [Ld7_.out];rfl) (by rw [Ld7_.out];kernel_rfl) Od7_.out ?_;intro W10_ hp hn;replace E:=E.out.put2 3 hp hn zq10;clear hp hn))
 have BX:=zz (show _=some (Obj.cells (d7_:List Value).toArray 37 (0,0)) from by first|exact (E.out.box 3 rfl)|simpa only [aA,aN,aL] using (E.out.box 3 rfl))
 refine bodyPost_ret (zY rfl _ _ (w.heap.size+1) 37 _ _ _ rfl BX.out Tryz.underlying37 rfl (by rw [List.size_toArray,show (d7_:List Value).length=2 from Ld7_.out];kernel_rfl)) rfl ?_
 exact ⟨_,rfl,(zjb (d:=kDisk) (E.out.made 0 rfl) (Nat.le_refl _)),E.out.below⟩
theorem cutI_2 (k:Nat) (y:S40) (l0:List ByteArray) (l1:List S110) (l2:Int) (l3 l4 l5:List Int) (n:Int) (stage:Int) (left:List Bool) (torn:Int) (q:(List ByteArray×List S110)) (m:S40) {cs:List Value} {v:Value} (w:World) (h:kTxn.K w (y,(l0,l1,l2,l3,l4,l5),n) cs) (hl:(Own.srow 4 Kd.bool).K w left [v]) (fn:ImplNM k (y,(l0,l1,l2,l3,l4,l5),n) m true) (fi:zab (y,(l0,l1,l2,l3,l4,l5),n)=true) (ff:impl_FallDisk.f k l0 l1 left torn=some (q.1,q.2)):
  Calls Tryz.prog 20 #[.agg cs.toArray,.int .i64 stage,v,.int .i64 torn] w fun e w'=>∃ds:List Value,e= .returned (.agg ds.toArray)∧kDisk.M w' w.heap.size (Fr w w') q ds∧Below w.heap.size w w':=by
 have KS0:=h
 obtain ⟨cM,_,rfl,hM,cW_,cI,rfl,hW_,hI⟩:=h
 obtain rfl:cI=[.int .i64 n]:=hI
 obtain ⟨u0,_,rfl,hU0,u1,cW2,rfl,hU1,hW2⟩:=hW_
 have hV0:=hU0
 have hV1:=hU1
 obtain ⟨B0,d0,rfl,-,-⟩:=hU0
 obtain ⟨B1,d1,rfl,-,-⟩:=hU1
 obtain ⟨cs,hcs⟩:∃cs,cs=cM++([.slice B0 l0.length d0]++([.slice B1 l1.length d1]++(cW2++[.int .i64 n]))):=⟨_,rfl⟩
 simp only [List.append_assoc] at KS0 ⊢
 rw [←hcs] at KS0 ⊢
 have Ecs:=zz hcs
 have KS:=zz KS0
 have KM:=zz hM;have KW0:=zz (show (Own.srow 9 Kd.string).K w l0 [.slice B0 l0.length d0] from hV0);have KW1:=zz (show (Own.srow 110 k110).K w l1 [.slice B1 l1.length d1] from hV1);have KW2:=zz hW2
 have LM:=zz (show cM.length=4 from Kd.K_len _ hM);have LW2:=zz (show cW2.length=4 from Kd.K_len _ hW2);have Lcs:=zz (show cs.length=11 from Kd.K_len _ KS0)
 have FN:=zz fn;clear fn
 have FI:=zz fi;clear fi
 have FF:=zz ff;clear ff
 clear KS0 hM hV0 hV1 hW2 hcs
 have KL:=zz hl
 obtain ⟨AL,cL,hvl,-,-⟩:=hl
 injection hvl with hvl
 subst hvl
 have O:=zz (Nat.le_refl w.heap.size)
 have E:=zz (Env.start w)
 go_enter Tryz.func20,Tryz.ntmps20
 go_wp2_with (first|((with_reducible refine zv (N:=14) rfl ?_);replace O:=zz (And.intro E.out.le O.out);replace E:=zz (E.out.alloc cs 46 (g:=w.heap.size) rfl);replace E:=zz (E.out.alloc [.slice none 0 0,.slice none 0 0] 37 (g:=(w.heap.size+1)) zq15);refine zy rfl 46 _ rfl w.heap.size 0 [] cs [] _ rfl (E.out.box 1 rfl) zq8 (rfl) Tryz.underlying46 rfl zq28 ?_))
 ((with_reducible refine (implNM_c k (y,(l0,l1,l2,l3,l4,l5),n) m true _ (E.out.K KS.out) FN.out).mono ?_);rintro e w1_ ⟨d2_,rfl,Md2_,hb⟩)
 have q:=E.out.made4 O.out 4 rfl Md2_ hb;clear O E Md2_ hb;obtain ⟨n3_,m4_,Ld2_,Od2_,O,E⟩:=q
 go_wp2_with (first|((with_reducible refine zC (t:=40) (p:=9) rfl ?_);replace O:=zz (And.intro E.out.le O.out);replace E:=zz (E.out.alloc Z40 40 (g:=w1_.heap.size) rfl);refine zD rfl 40 _ _ rfl rfl w1_.heap.size 0 d2_ [] Z40 [] rfl rfl (E.out.box 0 rfl) zq8 (rfl) zq41 zq33 Od2_.out ?_;intro W5_ hp hn;replace E:=E.out.put2 0 hp hn zq10;clear hp hn)|((with_reducible refine zv (N:=21) rfl ?_);refine zEa zq19 46 _ rfl w.heap.size 0 [] cs [] _ rfl (E.out.box 3 rfl) zq8 (rfl) Tryz.underlying46 rfl zq28 ?_))
 ((with_reducible refine (idleI_d y l0 l1 l2 l3 l4 l5 n true _ (E.out.K KS.out) FI.out).mono ?_);rintro e w6_ ⟨rfl,hb⟩)
 replace E:=zz (E.out.call hb);clear hb
 go_wp2_with (first|((with_reducible refine zv (N:=30) rfl ?_);refine zy rfl 37 _ rfl w.heap.size 4 cM [.slice B0 l0.length d0,.slice B1 l1.length d1] (cW2++[.int .i64 n]) _ rfl (E.out.box 3 rfl) zq29 (LM.out) Tryz.underlying37 rfl zq7 ?_))
 ((with_reducible refine (fallI_c k (l0,l1) left torn q _ (zta (E.out.K KW0.out) (E.out.K KW1.out)) (E.out.K KL.out) FF.out).mono ?_);rintro e w7_ ⟨d8_,rfl,Md8_,hb⟩)
 have q:=E.out.made4 O.out 2 rfl Md8_ hb;clear O E Md8_ hb;obtain ⟨n9_,m10_,Ld8_,Od8_,O,E⟩:=q
 go_wp2_with (first|((with_reducible refine zC (t:=37) (p:=8) rfl ?_);refine zD rfl 37 _ _ rfl rfl (w.heap.size+1) 0 d8_ [] [.slice none 0 0,.slice none 0 0] [] rfl rfl (E.out.box 3 rfl) zq8 (rfl) zq60 zq48 Od8_.out ?_;intro W11_ hp hn;replace E:=E.out.put2 3 hp hn zq10;clear hp hn))
 have BX:=zz (show _=some (Obj.cells (d8_:List Value).toArray 37 (0,0)) from by first|exact (E.out.box 3 rfl)|simpa only [aA,aN,aL] using (E.out.box 3 rfl))
 refine bodyPost_ret (zY rfl _ _ (w.heap.size+1) 37 _ _ _ rfl BX.out Tryz.underlying37 rfl zq39) rfl ?_
 exact ⟨_,rfl,(zjb (d:=kDisk) (E.out.made 0 rfl) (Nat.le_refl _)),E.out.below⟩
theorem cutI_3 (k:Nat) (y:S40) (l0:List ByteArray) (l1:List S110) (l2:Int) (l3 l4 l5:List Int) (n:Int) (left:List Bool) (torn:Int) (q:(List ByteArray×List S110)) (m:S40) {cs:List Value} {v:Value} (w:World) (h:kTxn.K w (y,(l0,l1,l2,l3,l4,l5),n) cs) (hl:(Own.srow 4 Kd.bool).K w left [v]) (fn:ImplNM k (y,(l0,l1,l2,l3,l4,l5),n) m true) (fi:zab (y,(l0,l1,l2,l3,l4,l5),n)=false) (ff:impl_FallDisk.f k l0 l1 left torn=some (q.1,q.2)):
  Calls Tryz.prog 20 #[.agg cs.toArray,.int .i64 0,v,.int .i64 torn] w fun e w'=>∃ds:List Value,e= .returned (.agg ds.toArray)∧kDisk.M w' w.heap.size (Fr w w') q ds∧Below w.heap.size w w':=by
 have KS0:=h
 obtain ⟨cM,_,rfl,hM,cW_,cI,rfl,hW_,hI⟩:=h
 obtain rfl:cI=[.int .i64 n]:=hI
 obtain ⟨u0,_,rfl,hU0,u1,cW2,rfl,hU1,hW2⟩:=hW_
 have hV0:=hU0
 have hV1:=hU1
 obtain ⟨B0,d0,rfl,-,-⟩:=hU0
 obtain ⟨B1,d1,rfl,-,-⟩:=hU1
 obtain ⟨cs,hcs⟩:∃cs,cs=cM++([.slice B0 l0.length d0]++([.slice B1 l1.length d1]++(cW2++[.int .i64 n]))):=⟨_,rfl⟩
 simp only [List.append_assoc] at KS0 ⊢
 rw [←hcs] at KS0 ⊢
 have Ecs:=zz hcs
 have KS:=zz KS0
 have KM:=zz hM;have KW0:=zz (show (Own.srow 9 Kd.string).K w l0 [.slice B0 l0.length d0] from hV0);have KW1:=zz (show (Own.srow 110 k110).K w l1 [.slice B1 l1.length d1] from hV1);have KW2:=zz hW2
 have LM:=zz (show cM.length=4 from Kd.K_len _ hM);have LW2:=zz (show cW2.length=4 from Kd.K_len _ hW2);have Lcs:=zz (show cs.length=11 from Kd.K_len _ KS0)
 have FN:=zz fn;clear fn
 have FI:=zz fi;clear fi
 have FF:=zz ff;clear ff
 clear KS0 hM hV0 hV1 hW2 hcs
 have KL:=zz hl
 obtain ⟨AL,cL,hvl,-,-⟩:=hl
 injection hvl with hvl
 subst hvl
 have O:=zz (Nat.le_refl w.heap.size)
 have E:=zz (Env.start w)
 go_enter Tryz.func20,Tryz.ntmps20
 go_wp2_with (first|((with_reducible refine zv (N:=14) rfl ?_);replace O:=zz (And.intro E.out.le O.out);replace E:=zz (E.out.alloc cs 46 (g:=w.heap.size) rfl);replace E:=zz (E.out.alloc [.slice none 0 0,.slice none 0 0] 37 (g:=(w.heap.size+1)) zq15);refine zy rfl 46 _ rfl w.heap.size 0 [] cs [] _ rfl (E.out.box 1 rfl) zq8 (rfl) Tryz.underlying46 rfl zq28 ?_))
 ((with_reducible refine (implNM_c k (y,(l0,l1,l2,l3,l4,l5),n) m true _ (E.out.K KS.out) FN.out).mono ?_);rintro e w1_ ⟨d2_,rfl,Md2_,hb⟩)
 have q:=E.out.made4 O.out 4 rfl Md2_ hb;clear O E Md2_ hb;obtain ⟨n3_,m4_,Ld2_,Od2_,O,E⟩:=q
 go_wp2_with (first|((with_reducible refine zC (t:=40) (p:=9) rfl ?_);replace O:=zz (And.intro E.out.le O.out);replace E:=zz (E.out.alloc Z40 40 (g:=w1_.heap.size) rfl);refine zD rfl 40 _ _ rfl rfl w1_.heap.size 0 d2_ [] Z40 [] rfl rfl (E.out.box 0 rfl) zq8 (rfl) zq41 zq33 Od2_.out ?_;intro W5_ hp hn;replace E:=E.out.put2 0 hp hn zq10;clear hp hn)|((with_reducible refine zv (N:=21) rfl ?_);refine zEa zq19 46 _ rfl w.heap.size 0 [] cs [] _ rfl (E.out.box 3 rfl) zq8 (rfl) Tryz.underlying46 rfl zq28 ?_))
 ((with_reducible refine (idleI_d y l0 l1 l2 l3 l4 l5 n false _ (E.out.K KS.out) FI.out).mono ?_);rintro e w6_ ⟨rfl,hb⟩)
 replace E:=zz (E.out.call hb);clear hb
 go_wp2_with (first|((with_reducible refine zv (N:=30) rfl ?_);refine zy rfl 37 _ rfl w.heap.size 4 cM [.slice B0 l0.length d0,.slice B1 l1.length d1] (cW2++[.int .i64 n]) _ rfl (E.out.box 3 rfl) zq29 (LM.out) Tryz.underlying37 rfl zq7 ?_))
 ((with_reducible refine (fallI_c k (l0,l1) left torn q _ (zta (E.out.K KW0.out) (E.out.K KW1.out)) (E.out.K KL.out) FF.out).mono ?_);rintro e w7_ ⟨d8_,rfl,Md8_,hb⟩)
 have q:=E.out.made4 O.out 2 rfl Md8_ hb;clear O E Md8_ hb;obtain ⟨n9_,m10_,Ld8_,Od8_,O,E⟩:=q
 go_wp2_with (first|((with_reducible refine zC (t:=37) (p:=8) rfl ?_);refine zD rfl 37 _ _ rfl rfl (w.heap.size+1) 0 d8_ [] [.slice none 0 0,.slice none 0 0] [] rfl rfl (E.out.box 3 rfl) zq8 (rfl) zq60 zq48 Od8_.out ?_;intro W11_ hp hn;replace E:=E.out.put2 3 hp hn zq10;clear hp hn))
 have BX:=zz (show _=some (Obj.cells (d8_:List Value).toArray 37 (0,0)) from by first|exact (E.out.box 3 rfl)|simpa only [aA,aN,aL] using (E.out.box 3 rfl))
 refine bodyPost_ret (zY rfl _ _ (w.heap.size+1) 37 _ _ _ rfl BX.out Tryz.underlying37 rfl zq39) rfl ?_
 exact ⟨_,rfl,(zjb (d:=kDisk) (E.out.made 0 rfl) (Nat.le_refl _)),E.out.below⟩
theorem cutI_b (k:Nat) (y:S40) (l0:List ByteArray) (l1:List S110) (l2:Int) (l3 l4 l5:List Int) (n:Int) (stage:Int) (left:List Bool) (torn:Int) (q:(List ByteArray×List S110)) (m:S40) (t:ByteArray) (ok:Bool) (e0:List ByteArray) (e1:List S110) {cs:List Value} {v:Value} (w:World) (h:kTxn.K w (y,(l0,l1,l2,l3,l4,l5),n) cs) (hl:(Own.srow 4 Kd.bool).K w left [v]) (fn:ImplNM k (y,(l0,l1,l2,l3,l4,l5),n) m true) (fi:zab (y,(l0,l1,l2,l3,l4,l5),n)=false) (ft:∃(vt:Int→ByteArray) (sl:ByteArray→ByteArray),TxF k vt sl∧MTxt vt sl m t ok) (fs:impl_SyncDisk.f k l0 l1=some (e0,e1)) (fx:0≤m.f0∧m.f0≤100000) (fe:e0.length≤2000000∧e1.length≤2000000) (fd:impl_DiskOk.f e0 e1=some false) (ff:impl_FallDisk.f k e0 e1 left torn=some (q.1,q.2)) (hg:stage≠0):
  Calls Tryz.prog 20 #[.agg cs.toArray,.int .i64 stage,v,.int .i64 torn] w fun e w'=>∃ds:List Value,e= .returned (.agg ds.toArray)∧kDisk.M w' w.heap.size (Fr w w') q ds∧Below w.heap.size w w':=by
 replace hg:(stage==0)=false:=beq_eq_false_iff_ne.2 hg
 have KS0:=h
 obtain ⟨cM,_,rfl,hM,cW_,cI,rfl,hW_,hI⟩:=h
 obtain rfl:cI=[.int .i64 n]:=hI
 obtain ⟨u0,_,rfl,hU0,u1,cW2,rfl,hU1,hW2⟩:=hW_
 have hV0:=hU0
 have hV1:=hU1
 obtain ⟨B0,d0,rfl,-,-⟩:=hU0
 obtain ⟨B1,d1,rfl,-,-⟩:=hU1
 obtain ⟨cs,hcs⟩:∃cs,cs=cM++([.slice B0 l0.length d0]++([.slice B1 l1.length d1]++(cW2++[.int .i64 n]))):=⟨_,rfl⟩
 simp only [List.append_assoc] at KS0 ⊢
 rw [←hcs] at KS0 ⊢
 have Ecs:=zz hcs
 have KS:=zz KS0
 have KM:=zz hM;have KW0:=zz (show (Own.srow 9 Kd.string).K w l0 [.slice B0 l0.length d0] from hV0);have KW1:=zz (show (Own.srow 110 k110).K w l1 [.slice B1 l1.length d1] from hV1);have KW2:=zz hW2
 have LM:=zz (show cM.length=4 from Kd.K_len _ hM);have LW2:=zz (show cW2.length=4 from Kd.K_len _ hW2);have Lcs:=zz (show cs.length=11 from Kd.K_len _ KS0)
 have FN:=zz fn;clear fn
 have FI:=zz fi;clear fi
 have FT:=zz ft;clear ft
 have FS:=zz fs;clear fs
 have FX:=zz fx;clear fx
 have FE:=zz fe;clear fe
 have FD:=zz fd;clear fd
 have FF:=zz ff;clear ff
 clear KS0 hM hV0 hV1 hW2 hcs
 have KL:=zz hl
 obtain ⟨AL,cL,hvl,-,-⟩:=hl
 injection hvl with hvl
 subst hvl
 have O:=zz (Nat.le_refl w.heap.size)
 have E:=zz (Env.start w)
 go_enter Tryz.func20,Tryz.ntmps20
 go_wp2_with (first|((with_reducible refine zv (N:=14) rfl ?_);replace O:=zz (And.intro E.out.le O.out);replace E:=zz (E.out.alloc cs 46 (g:=w.heap.size) rfl);replace E:=zz (E.out.alloc [.slice none 0 0,.slice none 0 0] 37 (g:=(w.heap.size+1)) zq15);refine zy rfl 46 _ rfl w.heap.size 0 [] cs [] _ rfl (E.out.box 1 rfl) zq8 (rfl) Tryz.underlying46 rfl zq28 ?_))
 ((with_reducible refine (implNM_c k (y,(l0,l1,l2,l3,l4,l5),n) m true _ (E.out.K KS.out) FN.out).mono ?_);rintro e w1_ ⟨d2_,rfl,Md2_,hb⟩)
 have q:=E.out.made4 O.out 4 rfl Md2_ hb;clear O E Md2_ hb;obtain ⟨n3_,m4_,Ld2_,Od2_,O,E⟩:=q
 go_wp2_with (first|((with_reducible refine zC (t:=40) (p:=9) rfl ?_);replace O:=zz (And.intro E.out.le O.out);replace E:=zz (E.out.alloc Z40 40 (g:=w1_.heap.size) rfl);refine zD rfl 40 _ _ rfl rfl w1_.heap.size 0 d2_ [] Z40 [] rfl rfl (E.out.box 0 rfl) zq8 (rfl) zq41 zq33 Od2_.out ?_;intro W5_ hp hn;replace E:=E.out.put2 0 hp hn zq10;clear hp hn)|((with_reducible refine zv (N:=21) rfl ?_);refine zEa zq19 46 _ rfl w.heap.size 0 [] cs [] _ rfl (E.out.box 3 rfl) zq8 (rfl) Tryz.underlying46 rfl zq28 ?_))
 ((with_reducible refine (idleI_d y l0 l1 l2 l3 l4 l5 n false _ (E.out.K KS.out) FI.out).mono ?_);rintro e w6_ ⟨rfl,hb⟩)
 replace E:=zz (E.out.call hb);clear hb
 go_wp2_with (first|((with_reducible refine zv (N:=35) rfl ?_);refine zy rfl 46 _ rfl w.heap.size 0 [] cs [] _ rfl (E.out.box 3 rfl) zq8 (rfl) Tryz.underlying46 rfl zq28 ?_)|((with_reducible refine zv (N:=36) rfl ?_);refine zy rfl 40 _ rfl w1_.heap.size 0 [] d2_ [] _ rfl (E.out.box 0 rfl) zq8 (rfl) Tryz.underlying40 rfl zq33 ?_))
 ((with_reducible refine (metaWritten_f k y l0 l1 l2 l3 l4 l5 n m t ok e0 e1 _ (E.out.K KS.out) (E.out.mk_ 1 rfl) FT.out FS.out FX.out FE.out FD.out).mono ?_);rintro e w7_ ⟨d8_,rfl,Md8_,hb⟩)
 have q:=E.out.made4 O.out 2 rfl Md8_ hb;clear O E Md8_ hb;obtain ⟨n9_,m10_,Ld8_,Od8_,O,E⟩:=q
 go_wp2_with (first|((with_reducible refine zC (t:=37) (p:=11) rfl ?_);replace O:=zz (And.intro E.out.le O.out);replace E:=zz (E.out.alloc [.slice none 0 0,.slice none 0 0] 37 (g:=w7_.heap.size) rfl);refine zD rfl 37 _ _ rfl rfl w7_.heap.size 0 d8_ [] [.slice none 0 0,.slice none 0 0] [] rfl rfl (E.out.box 0 rfl) zq8 (rfl) zq60 zq48 Od8_.out ?_;intro W11_ hp hn;replace E:=E.out.put2 0 hp hn zq10;clear hp hn)|((with_reducible refine zv (N:=40) rfl ?_);refine zy rfl 37 _ rfl w7_.heap.size 0 [] d8_ [] _ rfl (E.out.box 0 rfl) zq8 (rfl) Tryz.underlying37 rfl zq48 ?_))
 ((with_reducible refine (fallI_c k (e0,e1) left torn q _ (E.out.mk_ 1 rfl) (E.out.K KL.out) FF.out).mono ?_);rintro e w12_ ⟨d13_,rfl,Md13_,hb⟩)
 have q:=E.out.made4 O.out 2 rfl Md13_ hb;clear O E Md13_ hb;obtain ⟨n14_,m15_,Ld13_,Od13_,O,E⟩:=q
 go_wp2_with (first|((with_reducible refine zC (t:=37) (p:=8) rfl ?_);refine zD rfl 37 _ _ rfl rfl (w.heap.size+1) 0 d13_ [] [.slice none 0 0,.slice none 0 0] [] rfl rfl (E.out.box 5 rfl) zq8 (rfl) (by rw [Ld13_.out];rfl) zq56 Od13_.out ?_;intro W16_ hp hn;replace E:=E.out.put2 5 hp hn zq10;clear hp hn))
 have BX:=zz (show _=some (Obj.cells (d13_:List Value).toArray 37 (0,0)) from by first|exact (E.out.box 5 rfl)|simpa only [aA,aN,aL] using (E.out.box 5 rfl))
 refine bodyPost_ret (zY rfl _ _ (w.heap.size+1) 37 _ _ _ rfl BX.out Tryz.underlying37 rfl (by rw [List.size_toArray,show (d13_:List Value).length=2 from Ld13_.out];kernel_rfl)) rfl ?_
 exact ⟨_,rfl,(zjb (d:=kDisk) (E.out.made 0 rfl) (Nat.le_refl _)),E.out.below⟩
theorem cutI_c (k:Nat) (y:S40) (l0:List ByteArray) (l1:List S110) (l2:Int) (l3 l4 l5:List Int) (n:Int) (stage:Int) (left:List Bool) (torn:Int) (q:(List ByteArray×List S110)) (m:S40) (t:ByteArray) (ok:Bool) (e0:List ByteArray) (e1:List S110) (z:(List ByteArray×List S110)) {cs:List Value} {v:Value} (w:World) (h:kTxn.K w (y,(l0,l1,l2,l3,l4,l5),n) cs) (hl:(Own.srow 4 Kd.bool).K w left [v]) (fn:ImplNM k (y,(l0,l1,l2,l3,l4,l5),n) m true) (fi:zab (y,(l0,l1,l2,l3,l4,l5),n)=false) (ft:∃(vt:Int→ByteArray) (sl:ByteArray→ByteArray),TxF k vt sl∧MTxt vt sl m t ok) (fs:impl_SyncDisk.f k l0 l1=some (e0,e1)) (fx:0≤m.f0∧m.f0≤100000) (fw:impl_WritePage.f e0 e1 (m.f0%2) t=some (z.1,z.2,true)) (ff:impl_FallDisk.f k z.1 z.2 left torn=some (q.1,q.2)) (hg:stage≠0):
  Calls Tryz.prog 20 #[.agg cs.toArray,.int .i64 stage,v,.int .i64 torn] w fun e w'=>∃ds:List Value,e= .returned (.agg ds.toArray)∧kDisk.M w' w.heap.size (Fr w w') q ds∧Below w.heap.size w w':=by
 replace hg:(stage==0)=false:=beq_eq_false_iff_ne.2 hg
 have KS0:=h
 obtain ⟨cM,_,rfl,hM,cW_,cI,rfl,hW_,hI⟩:=h
 obtain rfl:cI=[.int .i64 n]:=hI
 obtain ⟨u0,_,rfl,hU0,u1,cW2,rfl,hU1,hW2⟩:=hW_
 have hV0:=hU0
 have hV1:=hU1
 obtain ⟨B0,d0,rfl,-,-⟩:=hU0
 obtain ⟨B1,d1,rfl,-,-⟩:=hU1
 obtain ⟨cs,hcs⟩:∃cs,cs=cM++([.slice B0 l0.length d0]++([.slice B1 l1.length d1]++(cW2++[.int .i64 n]))):=⟨_,rfl⟩
 simp only [List.append_assoc] at KS0 ⊢
 rw [←hcs] at KS0 ⊢
 have Ecs:=zz hcs
 have KS:=zz KS0
 have KM:=zz hM;have KW0:=zz (show (Own.srow 9 Kd.string).K w l0 [.slice B0 l0.length d0] from hV0);have KW1:=zz (show (Own.srow 110 k110).K w l1 [.slice B1 l1.length d1] from hV1);have KW2:=zz hW2
 have LM:=zz (show cM.length=4 from Kd.K_len _ hM);have LW2:=zz (show cW2.length=4 from Kd.K_len _ hW2);have Lcs:=zz (show cs.length=11 from Kd.K_len _ KS0)
 have FN:=zz fn;clear fn
 have FI:=zz fi;clear fi
 have FT:=zz ft;clear ft
 have FS:=zz fs;clear fs
 have FX:=zz fx;clear fx
 have FW:=zz fw;clear fw
 have FF:=zz ff;clear ff
 clear KS0 hM hV0 hV1 hW2 hcs
 have KL:=zz hl
 obtain ⟨AL,cL,hvl,-,-⟩:=hl
 injection hvl with hvl
 subst hvl
 have O:=zz (Nat.le_refl w.heap.size)
 have E:=zz (Env.start w)
 go_enter Tryz.func20,Tryz.ntmps20
 go_wp2_with (first|((with_reducible refine zv (N:=14) rfl ?_);replace O:=zz (And.intro E.out.le O.out);replace E:=zz (E.out.alloc cs 46 (g:=w.heap.size) rfl);replace E:=zz (E.out.alloc [.slice none 0 0,.slice none 0 0] 37 (g:=(w.heap.size+1)) zq15);refine zy rfl 46 _ rfl w.heap.size 0 [] cs [] _ rfl (E.out.box 1 rfl) zq8 (rfl) Tryz.underlying46 rfl zq28 ?_))
 ((with_reducible refine (implNM_c k (y,(l0,l1,l2,l3,l4,l5),n) m true _ (E.out.K KS.out) FN.out).mono ?_);rintro e w1_ ⟨d2_,rfl,Md2_,hb⟩)
 have q:=E.out.made4 O.out 4 rfl Md2_ hb;clear O E Md2_ hb;obtain ⟨n3_,m4_,Ld2_,Od2_,O,E⟩:=q
 go_wp2_with (first|((with_reducible refine zC (t:=40) (p:=9) rfl ?_);replace O:=zz (And.intro E.out.le O.out);replace E:=zz (E.out.alloc Z40 40 (g:=w1_.heap.size) rfl);refine zD rfl 40 _ _ rfl rfl w1_.heap.size 0 d2_ [] Z40 [] rfl rfl (E.out.box 0 rfl) zq8 (rfl) zq41 zq33 Od2_.out ?_;intro W5_ hp hn;replace E:=E.out.put2 0 hp hn zq10;clear hp hn)|((with_reducible refine zv (N:=21) rfl ?_);refine zEa zq19 46 _ rfl w.heap.size 0 [] cs [] _ rfl (E.out.box 3 rfl) zq8 (rfl) Tryz.underlying46 rfl zq28 ?_))
 ((with_reducible refine (idleI_d y l0 l1 l2 l3 l4 l5 n false _ (E.out.K KS.out) FI.out).mono ?_);rintro e w6_ ⟨rfl,hb⟩)
 replace E:=zz (E.out.call hb);clear hb
 go_wp2_with (first|((with_reducible refine zv (N:=35) rfl ?_);refine zy rfl 46 _ rfl w.heap.size 0 [] cs [] _ rfl (E.out.box 3 rfl) zq8 (rfl) Tryz.underlying46 rfl zq28 ?_)|((with_reducible refine zv (N:=36) rfl ?_);refine zy rfl 40 _ rfl w1_.heap.size 0 [] d2_ [] _ rfl (E.out.box 0 rfl) zq8 (rfl) Tryz.underlying40 rfl zq33 ?_))
 ((with_reducible refine (metaWritten_t k y l0 l1 l2 l3 l4 l5 n m t ok e0 e1 z _ (E.out.K KS.out) (E.out.mk_ 1 rfl) FT.out FS.out FX.out FW.out).mono ?_);rintro e w7_ ⟨d8_,rfl,Md8_,hb⟩)
 have q:=E.out.made4 O.out 2 rfl Md8_ hb;clear O E Md8_ hb;obtain ⟨n9_,m10_,Ld8_,Od8_,O,E⟩:=q
 go_wp2_with (first|((with_reducible refine zC (t:=37) (p:=11) rfl ?_);replace O:=zz (And.intro E.out.le O.out);replace E:=zz (E.out.alloc [.slice none 0 0,.slice none 0 0] 37 (g:=w7_.heap.size) rfl);refine zD rfl 37 _ _ rfl rfl w7_.heap.size 0 d8_ [] [.slice none 0 0,.slice none 0 0] [] rfl rfl (E.out.box 0 rfl) zq8 (rfl) zq60 zq48 Od8_.out ?_;intro W11_ hp hn;replace E:=E.out.put2 0 hp hn zq10;clear hp hn)|((with_reducible refine zv (N:=40) rfl ?_);refine zy rfl 37 _ rfl w7_.heap.size 0 [] d8_ [] _ rfl (E.out.box 0 rfl) zq8 (rfl) Tryz.underlying37 rfl zq48 ?_))
 ((with_reducible refine (fallI_c k z left torn q _ (E.out.mk_ 1 rfl) (E.out.K KL.out) FF.out).mono ?_);rintro e w12_ ⟨d13_,rfl,Md13_,hb⟩)
 have q:=E.out.made4 O.out 2 rfl Md13_ hb;clear O E Md13_ hb;obtain ⟨n14_,m15_,Ld13_,Od13_,O,E⟩:=q
 go_wp2_with (first|((with_reducible refine zC (t:=37) (p:=8) rfl ?_);refine zD rfl 37 _ _ rfl rfl (w.heap.size+1) 0 d13_ [] [.slice none 0 0,.slice none 0 0] [] rfl rfl (E.out.box 5 rfl) zq8 (rfl) (by rw [Ld13_.out];rfl) zq56 Od13_.out ?_;intro W16_ hp hn;replace E:=E.out.put2 5 hp hn zq10;clear hp hn))
 have BX:=zz (show _=some (Obj.cells (d13_:List Value).toArray 37 (0,0)) from by first|exact (E.out.box 5 rfl)|simpa only [aA,aN,aL] using (E.out.box 5 rfl))
 refine bodyPost_ret (zY rfl _ _ (w.heap.size+1) 37 _ _ _ rfl BX.out Tryz.underlying37 rfl (by rw [List.size_toArray,show (d13_:List Value).length=2 from Ld13_.out];kernel_rfl)) rfl ?_
 exact ⟨_,rfl,(zjb (d:=kDisk) (E.out.made 0 rfl) (Nat.le_refl _)),E.out.below⟩
end Go.Proofs.YtonhdiemjgdcnaaGreat.PFnExactGivePage
