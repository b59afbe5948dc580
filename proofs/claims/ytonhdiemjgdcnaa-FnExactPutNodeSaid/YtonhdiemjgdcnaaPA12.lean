import Derived.Test.YtonhdiemjgdcnaaPA11
set_option maxHeartbeats 64000000
set_option maxRecDepth 100000
set_option linter.unusedVariables false
set_option linter.unusedSimpArgs false
namespace Go.Proofs.Ytonhdiemjgdcnaa.PFnExactGivePage
open Go.RowKit Go.Proofs.YtonhdiemjgdcnaaW.PrintWords Go.Proofs.YtonhdiemjgdcnaaW.PrintLast Go.Proofs.YtonhdiemjgdcnaaW.PrintMore
attribute [local go_sem] zO zP zY zX zK zJ zQ zR
def spec_GivePage.f (l0_0:List ByteArray) (l0_1:List (S135)) (a0_2:Int) (l0_3:List Int) (l0_4:List Int) (l0_5:List Int):Option (List ByteArray×(List (S135))×Int×List Int×List Int×List Int×Int):=(spec_l08Copy.f l0_0 l0_1 a0_2 l0_3 l0_4 l0_5).bind fun bt129=>(if (l0_3.length:Int)>0 then ((some (([]:List Int):List Int)).bind fun y146=>(if 1≤(l0_3.length:Int) then (if y146.length+(l0_3.drop 1).length<17592186044416 then (if 0<(l0_3.length:Int) then (if bt129.2.2.2.2.2.length<17592186044416 then (some (bt129.1,bt129.2.1,bt129.2.2.1,(y146++(l0_3.drop 1)),bt129.2.2.2.2.1,(bt129.2.2.2.2.2++[rd l0_3 0]),rd l0_3 0)) else (none)) else (none)) else (none)) else (none))) else (if a0_2≥(l0_0.length:Int) then (some (bt129.1,bt129.2.1,bt129.2.2.1,bt129.2.2.2.1,bt129.2.2.2.2.1,bt129.2.2.2.2.2,0)) else (if bt129.2.2.2.2.2.length<17592186044416 then (some (bt129.1,bt129.2.1,wrap64 (a0_2+1),bt129.2.2.2.1,bt129.2.2.2.2.1,(bt129.2.2.2.2.2++[a0_2]),a0_2)) else (none))))
def spec_GivePage.T4:Bool×List (List Nat×List Nat):=(true,[([],[]),([0],[0]),([],[]),([2],[2]),([3],[3]),([4],[4]),([5],[5]),([1,6],[1,6]),([0,1,2,3,4,5,6,7],[]),([8,7,7,0,1,2,3,4,5,6,7],[7,8])])
def spec_GivePage.B4:List Nat:=[0,1,0,4,12,28,60,127,255,511]
theorem spec_GivePage.tab4:rtab .any (opsOf Try.f10 4)=spec_GivePage.T4:=zq15
theorem spec_GivePage.bits4:zza spec_GivePage.T4.2 spec_GivePage.B4=true:=zq15
theorem spec_GivePage.calls (A0_0:Option Addr) (c0_0:Nat) (l0_0:List ByteArray) (A0_1:Option Addr) (c0_1:Nat) (l0_1:List (S135)) (a0_2:Int) (A0_3:Option Addr) (c0_3:Nat) (l0_3:List Int) (A0_4:Option Addr) (c0_4:Nat) (l0_4:List Int) (A0_5:Option Addr) (c0_5:Nat) (l0_5:List Int) (r1:List ByteArray) (r2:List (S135)) (r3:Int) (r4:List Int) (r5:List Int) (r6:List Int) (r7:Int) (w:World) (hr0_0:Kd.C Kd.string w A0_0 l0_0.length l0_0) (hc0_0:l0_0.length≤c0_0) (hr0_1:Kd.C k135 w A0_1 l0_1.length l0_1) (hc0_1:l0_1.length≤c0_1) (hr0_3:Kd.C (Kd.int .i64) w A0_3 l0_3.length l0_3) (hc0_3:l0_3.length≤c0_3) (hr0_4:Kd.C (Kd.int .i64) w A0_4 l0_4.length l0_4) (hc0_4:l0_4.length≤c0_4) (hr0_5:Kd.C (Kd.int .i64) w A0_5 l0_5.length l0_5) (hc0_5:l0_5.length≤c0_5) (h:spec_GivePage.f l0_0 l0_1 a0_2 l0_3 l0_4 l0_5=some (r1,r2,r3,r4,r5,r6,r7)):
  Calls Try.prog 10 #[.agg #[.slice A0_0 l0_0.length c0_0,.slice A0_1 l0_1.length c0_1,.int .i64 a0_2,.slice A0_3 l0_3.length c0_3,.slice A0_4 l0_4.length c0_4,.slice A0_5 l0_5.length c0_5]] w fun e w'=>∃v0_ v1_ v3_ v4_ v5_:Value,e= .returned (.tuple #[.agg #[v0_,v1_,.int .i64 r3,v3_,v4_,v5_],.int .i64 r7])∧Kd.R Kd.string 9 w' w.heap.size (fun _=>True) v0_ r1∧Kd.R k135 135 w' w.heap.size (fun _=>True) v1_ r2∧Kd.R (Kd.int .i64) 3 w' w.heap.size (fun k_=>some k_≠(v4_:Value).ownBlock∧some k_≠(v5_:Value).ownBlock) v3_ r4∧Kd.R (Kd.int .i64) 3 w' w.heap.size (fun k_=>some k_≠(v3_:Value).ownBlock∧some k_≠(v5_:Value).ownBlock) v4_ r5∧Kd.R (Kd.int .i64) 3 w' w.heap.size (fun k_=>some k_≠(v3_:Value).ownBlock∧some k_≠(v4_:Value).ownBlock) v5_ r6∧Below w.heap.size w w':=by
 have hu34:=Try.underlying34
 have HR0_0:=zz hr0_0
 have HC0_0:=zz hc0_0
 clear hr0_0 hc0_0
 have HR0_1:=zz hr0_1
 have HC0_1:=zz hc0_1
 clear hr0_1 hc0_1
 have HR0_3:=zz hr0_3
 have HC0_3:=zz hc0_3
 clear hr0_3 hc0_3
 have HR0_4:=zz hr0_4
 have HC0_4:=zz hc0_4
 clear hr0_4 hc0_4
 have HR0_5:=zz hr0_5
 have HC0_5:=zz hc0_5
 clear hr0_5 hc0_5
 have HB:=zz (Below.refl w.heap.size w)
 have H:((spec_l08Copy.f l0_0 l0_1 a0_2 l0_3 l0_4 l0_5).bind fun bt129=>(if (l0_3.length:Int)>0 then ((some (([]:List Int):List Int)).bind fun y146=>(if 1≤(l0_3.length:Int) then (if y146.length+(l0_3.drop 1).length<17592186044416 then (if 0<(l0_3.length:Int) then (if bt129.2.2.2.2.2.length<17592186044416 then (some (bt129.1,bt129.2.1,bt129.2.2.1,(y146++(l0_3.drop 1)),bt129.2.2.2.2.1,(bt129.2.2.2.2.2++[rd l0_3 0]),rd l0_3 0)) else (none)) else (none)) else (none)) else (none))) else (if a0_2≥(l0_0.length:Int) then (some (bt129.1,bt129.2.1,bt129.2.2.1,bt129.2.2.2.1,bt129.2.2.2.2.1,bt129.2.2.2.2.2,0)) else (if bt129.2.2.2.2.2.length<17592186044416 then (some (bt129.1,bt129.2.1,wrap64 (a0_2+1),bt129.2.2.2.1,bt129.2.2.2.2.1,(bt129.2.2.2.2.2++[a0_2]),a0_2)) else (none)))))=some (r1,r2,r3,r4,r5,r6,r7):=h
 clear h
 replace H:=Option.bind_eq_some_iff.mp H
 obtain ⟨⟨t129,t132,t135,t136,t139,t142⟩,A20,H⟩:=H
 replace H:(if (l0_3.length:Int)>0 then ((some (([]:List Int):List Int)).bind fun y146=>(if 1≤(l0_3.length:Int) then (if y146.length+(l0_3.drop 1).length<17592186044416 then (if 0<(l0_3.length:Int) then (if t142.length<17592186044416 then (some (t129,t132,t135,(y146++(l0_3.drop 1)),t139,(t142++[rd l0_3 0]),rd l0_3 0)) else (none)) else (none)) else (none)) else (none))) else (if a0_2≥(l0_0.length:Int) then (some (t129,t132,t135,t136,t139,t142,0)) else (if t142.length<17592186044416 then (some (t129,t132,wrap64 (a0_2+1),t136,t139,(t142++[a0_2]),a0_2)) else (none))))=some (r1,r2,r3,r4,r5,r6,r7):=H
 have A2:=zz A20
 clear A20
 by_cases c3:(l0_3.length:Int)>0
 ·rw [if_pos c3] at H
  have c3b0:decide (0<(l0_3.length:Int))=true:=decide_eq_true c3
  have c3b1:decide (0<l0_3.length)=true:=decide_eq_true zq11
  clear c3
  obtain ⟨y146,hy146⟩:∃y_:List Int,y_=(([]:List Int)):=⟨_,rfl⟩
  replace H:(if 1≤(l0_3.length:Int) then (if y146.length+(l0_3.drop 1).length<17592186044416 then (if 0<(l0_3.length:Int) then (if t142.length<17592186044416 then (some (t129,t132,t135,(y146++(l0_3.drop 1)),t139,(t142++[rd l0_3 0]),rd l0_3 0)) else (none)) else (none)) else (none)) else (none))=some (r1,r2,r3,r4,r5,r6,r7):=zq8 hy146
  have Ny146:=zz hy146
  clear hy146
  by_cases c4:1≤(l0_3.length:Int)
  ·rw [if_pos c4] at H
   have c4b0:=eq_true c4
   have c4b1:=decide_eq_true c4
   clear c4
   by_cases c5:y146.length+(l0_3.drop 1).length<17592186044416
   ·rw [if_pos c5] at H
    have LMc5:=zz c5
    clear c5
    obtain ⟨y150,hy150⟩:∃y_:List Int,y_=(y146++(l0_3.drop 1)):=⟨_,rfl⟩
    replace H:(if 0<(l0_3.length:Int) then (if t142.length<17592186044416 then (some (t129,t132,t135,y150,t139,(t142++[rd l0_3 0]),rd l0_3 0)) else (none)) else (none))=some (r1,r2,r3,r4,r5,r6,r7):=zq8 hy150
    have Ny150:=zz hy150
    clear hy150
    by_cases c6:0<(l0_3.length:Int)
    ·rw [if_pos c6] at H
     have c6b0:=decide_eq_true c6
     have c6b1:decide (0<l0_3.length)=true:=decide_eq_true zq11
     clear c6
     by_cases c7:t142.length<17592186044416
     ·rw [if_pos c7] at H
      have LMc7:=zz c7
      clear c7
      obtain ⟨y154,hy154⟩:∃y_:List Int,y_=(t142++[rd l0_3 0]):=⟨_,rfl⟩
      replace H:(some (t129,t132,t135,y150,t139,y154,rd l0_3 0))=some (r1,r2,r3,r4,r5,r6,r7):=zq8 hy154
      have Ny154:=zz hy154
      clear hy154
      simp only [Option.some.injEq,Prod.mk.injEq] at H
      obtain ⟨rfl,rfl,rfl,rfl,rfl,rfl,rfl⟩:=H
      go_enter Try.func10,Try.ntmps10
      try go_wp2_with (first|((with_reducible refine zm (N:=1) rfl ?_);refine zq ?hg (N:=1) ?hd (cs:= #[.slice A0_0 l0_0.length c0_0,.slice A0_1 l0_1.length c0_1,.int .i64 a0_2,.slice A0_3 l0_3.length c0_3,.slice A0_4 l0_4.length c0_4,.slice A0_5 l0_5.length c0_5]) (t:=34) ?hr ?_;(case hd=>rfl);(case hg=>rfl);(case hr=>first|(go_simp;done)|(go_simp;rfl));intro gb127 hg w8 hbox hb;have n0_:=zz (ze zq2 hb);have n1_:=zz (hbox);have n2_:=zz ((by rw [hg];exact (zc zq2):w.heap.size≤gb127));have n3_:=zz ((by rw [hg];exact (zc zq2):w.heap.size≤gb127));clear HB;have HB:=n0_;have BK127:=n1_;have GW127:=n2_;have GE127:=n3_;clear n0_ n1_ n2_ n3_;clear hb hbox hg)|((with_reducible refine zm (N:=2) rfl ?_);refine zq ?hg (N:=2) ?hd (cs:= #[.slice none 0 0,.slice none 0 0,.int .i64 0,.slice none 0 0,.slice none 0 0,.slice none 0 0]) (t:=34) ?hr ?_;(case hd=>rfl);(case hg=>rfl);(case hr=>first|(go_simp;done)|(go_simp;rfl));intro gb128 hg w9 hbox hb;have n0_:=zz (zi (g:=gb127) (o:= .cells #[.slice A0_0 l0_0.length c0_0,.slice A0_1 l0_1.length c0_1,.int .i64 a0_2,.slice A0_3 l0_3.length c0_3,.slice A0_4 l0_4.length c0_4,.slice A0_5 l0_5.length c0_5] 34 (0,0)) (zq0 BK127.out) hb);have n1_:=zz (ze (zq3 GE127.out) hb);have n2_:=zz (hbox);have n3_:=zz ((by rw [hg];exact (zc (zq3 GE127.out)):w.heap.size≤gb128));have n4_:=zz ((by rw [hg];exact (zc (zq3 GE127.out)):w.heap.size≤gb128));have n5_:=zz ((by rw [hg];exact Nat.ne_of_lt (zu (g:=gb127) (o:= .cells #[.slice A0_0 l0_0.length c0_0,.slice A0_1 l0_1.length c0_1,.int .i64 a0_2,.slice A0_3 l0_3.length c0_3,.slice A0_4 l0_4.length c0_4,.slice A0_5 l0_5.length c0_5] 34 (0,0)) (zq0 BK127.out)):gb127≠gb128));have n6_:=zz ((by rw [hg];exact Nat.ne_of_gt (zu (g:=gb127) (o:= .cells #[.slice A0_0 l0_0.length c0_0,.slice A0_1 l0_1.length c0_1,.int .i64 a0_2,.slice A0_3 l0_3.length c0_3,.slice A0_4 l0_4.length c0_4,.slice A0_5 l0_5.length c0_5] 34 (0,0)) (zq0 BK127.out)):gb128≠gb127));clear BK127;clear HB;have BK127:=n0_;have HB:=n1_;have BK128:=n2_;have GW128:=n3_;have GE128:=n4_;have NB127_128:=n5_;have NB128_127:=n6_;clear n0_ n1_ n2_ n3_ n4_ n5_ n6_;clear hb hbox hg;have hnb10:=NB127_128.out;have hnc10:=NB128_127.out;have hcz11_0:w9.cell? ⟨gb127,0,none⟩=some (.slice A0_0 l0_0.length c0_0):=(zb BK127.out 0).trans rfl;have hcz11_1:w9.cell? ⟨gb127,1,none⟩=some (.slice A0_1 l0_1.length c0_1):=(zb BK127.out 1).trans rfl;have hcz11_2:w9.cell? ⟨gb127,2,none⟩=some (.int .i64 a0_2):=(zb BK127.out 2).trans rfl;have hcz11_3:w9.cell? ⟨gb127,3,none⟩=some (.slice A0_3 l0_3.length c0_3):=(zb BK127.out 3).trans rfl;have hcz11_4:w9.cell? ⟨gb127,4,none⟩=some (.slice A0_4 l0_4.length c0_4):=(zb BK127.out 4).trans rfl;have hcz11_5:w9.cell? ⟨gb127,5,none⟩=some (.slice A0_5 l0_5.length c0_5):=(zb BK127.out 5).trans rfl;have hfz11_0:=za BK127.out 0;have hfz11_1:=za BK127.out 1;have hfz11_2:=za BK127.out 2;have hfz11_3:=za BK127.out 3;have hfz11_4:=za BK127.out 4;have hfz11_5:=za BK127.out 5)|((with_reducible refine zo (f:=47) rfl ?_);refine zw (some 6) rfl rfl Try.func47 zq15 rfl #[.agg #[.slice A0_0 l0_0.length c0_0,.slice A0_1 l0_1.length c0_1,.int .i64 a0_2,.slice A0_3 l0_3.length c0_3,.slice A0_4 l0_4.length c0_4,.slice A0_5 l0_5.length c0_5]] rfl zq4 ?_;(with_reducible refine (spec_l08Copy.calls _ _ l0_0 _ _ l0_1 a0_2 _ _ l0_3 _ _ l0_4 _ _ l0_5 t129 t132 t135 t136 t139 t142 _ ?side1 ?side2 ?side3 ?side4 ?side5 ?side6 ?side7 ?side8 ?side9 ?side10 A2.out).mono ?_);(case side1=>repeat (first|exact (Kd.C_below HR0_0.out HB.out)|(with_reducible refine Kd.C_alloc ?_ _)|(with_reducible refine Kd.C_drewN ?_ _)|(with_reducible refine Kd.C_drew ?_)));(case side2=>exact HC0_0.out);(case side3=>repeat (first|exact (Kd.C_below HR0_1.out HB.out)|(with_reducible refine Kd.C_alloc ?_ _)|(with_reducible refine Kd.C_drewN ?_ _)|(with_reducible refine Kd.C_drew ?_)));(case side4=>exact HC0_1.out);(case side5=>repeat (first|exact (Kd.C_below HR0_3.out HB.out)|(with_reducible refine Kd.C_alloc ?_ _)|(with_reducible refine Kd.C_drewN ?_ _)|(with_reducible refine Kd.C_drew ?_)));(case side6=>exact HC0_3.out);(case side7=>repeat (first|exact (Kd.C_below HR0_4.out HB.out)|(with_reducible refine Kd.C_alloc ?_ _)|(with_reducible refine Kd.C_drewN ?_ _)|(with_reducible refine Kd.C_drew ?_)));(case side8=>exact HC0_4.out);(case side9=>repeat (first|exact (Kd.C_below HR0_5.out HB.out)|(with_reducible refine Kd.C_alloc ?_ _)|(with_reducible refine Kd.C_drewN ?_ _)|(with_reducible refine Kd.C_drew ?_)));(case side10=>exact HC0_5.out);rintro e w12 ⟨v130,v133,v137,v140,v143,rfl,ho0,ho1,ho2,ho3,ho4,hb⟩;refine ⟨_,rfl,?_⟩;(first|have rs_v130:=zp (P:=Try.prog) ho0|have rs_v130:=zp (P:=Try.prog) (Kd.S_R ho0)|skip);(first|have rs_v133:=zp (P:=Try.prog) ho1|have rs_v133:=zp (P:=Try.prog) (Kd.S_R ho1)|skip);(first|have rs_v137:=zp (P:=Try.prog) ho2|have rs_v137:=zp (P:=Try.prog) (Kd.S_R ho2)|skip);(first|have rs_v140:=zp (P:=Try.prog) ho3|have rs_v140:=zp (P:=Try.prog) (Kd.S_R ho3)|skip);(first|have rs_v143:=zp (P:=Try.prog) ho4|have rs_v143:=zp (P:=Try.prog) (Kd.S_R ho4)|skip);have n0_:=zz (Kd.R_lower ho0 (zc (zq1 GE127.out GE128.out)));have n1_:=zz (Kd.R_lower ho1 (zc (zq1 GE127.out GE128.out)));have n2_:=zz (Kd.R_lower ho2 (zc (zq1 GE127.out GE128.out)));have n3_:=zz (Kd.R_lower ho3 (zc (zq1 GE127.out GE128.out)));have n4_:=zz (Kd.R_lower ho4 (zc (zq1 GE127.out GE128.out)));have n5_:=zz (zi (g:=gb127) (o:= .cells #[.slice A0_0 l0_0.length c0_0,.slice A0_1 l0_1.length c0_1,.int .i64 a0_2,.slice A0_3 l0_3.length c0_3,.slice A0_4 l0_4.length c0_4,.slice A0_5 l0_5.length c0_5] 34 (0,0)) (zq0 BK127.out) hb);have n6_:=zz (zi (g:=gb128) (o:= .cells #[.slice none 0 0,.slice none 0 0,.int .i64 0,.slice none 0 0,.slice none 0 0,.slice none 0 0] 34 (0,0)) (zq0 BK128.out) hb);have n7_:=zz (ze (zq1 GE127.out GE128.out) hb);clear BK127;clear BK128;clear HB;have HO131:=n0_;have HO134:=n1_;have HO138:=n2_;have HO141:=n3_;have HO144:=n4_;have BK127:=n5_;have BK128:=n6_;have HB:=n7_;clear n0_ n1_ n2_ n3_ n4_ n5_ n6_ n7_;(try clear hb);(try clear hb2);(try clear hk);(try clear hi);(try clear ho0);(try clear ho1);(try clear ho2);(try clear ho3);(try clear ho4))|((with_reducible refine zm (N:=4) rfl ?_);refine zq ?hg (N:=4) ?hd (cs:= #[.slice none 0 0,.slice none 0 0,.int .i64 0,.slice none 0 0,.slice none 0 0,.slice none 0 0]) (t:=34) ?hr ?_;(case hd=>rfl);(case hg=>rfl);(case hr=>first|(go_simp;done)|(go_simp;rfl));intro gb145 hg w13 hbox hb;have n0_:=zz (Kd.R_below (zq5 HO131.out) hb);have n1_:=zz (Kd.R_below (zq5 HO134.out) hb);have n2_:=zz (Kd.R_below (zq5 HO138.out) hb);have n3_:=zz (Kd.R_below (zq5 HO141.out) hb);have n4_:=zz (Kd.R_below (zq5 HO144.out) hb);have n5_:=zz (zi (g:=gb127) (o:= .cells #[.slice A0_0 l0_0.length c0_0,.slice A0_1 l0_1.length c0_1,.int .i64 a0_2,.slice A0_3 l0_3.length c0_3,.slice A0_4 l0_4.length c0_4,.slice A0_5 l0_5.length c0_5] 34 (0,0)) (zq0 BK127.out) hb);have n6_:=zz (zi (g:=gb128) (o:= .cells #[.slice none 0 0,.slice none 0 0,.int .i64 0,.slice none 0 0,.slice none 0 0,.slice none 0 0] 34 (0,0)) (zq0 BK128.out) hb);have n7_:=zz (ze (zq1 GE127.out GE128.out) hb);have n8_:=zz (hbox);have n9_:=zz ((by rw [hg];exact (zc (zq1 GE127.out GE128.out)):w.heap.size≤gb145));have n10_:=zz ((by rw [hg];exact (zc (zq1 GE127.out GE128.out)):w.heap.size≤gb145));have n11_:=zz ((by rw [hg];exact Nat.ne_of_lt (zu (g:=gb127) (o:= .cells #[.slice A0_0 l0_0.length c0_0,.slice A0_1 l0_1.length c0_1,.int .i64 a0_2,.slice A0_3 l0_3.length c0_3,.slice A0_4 l0_4.length c0_4,.slice A0_5 l0_5.length c0_5] 34 (0,0)) (zq0 BK127.out)):gb127≠gb145));have n12_:=zz ((by rw [hg];exact Nat.ne_of_gt (zu (g:=gb127) (o:= .cells #[.slice A0_0 l0_0.length c0_0,.slice A0_1 l0_1.length c0_1,.int .i64 a0_2,.slice A0_3 l0_3.length c0_3,.slice A0_4 l0_4.length c0_4,.slice A0_5 l0_5.length c0_5] 34 (0,0)) (zq0 BK127.out)):gb145≠gb127));have n13_:=zz ((by rw [hg];exact Nat.ne_of_lt (zu (g:=gb128) (o:= .cells #[.slice none 0 0,.slice none 0 0,.int .i64 0,.slice none 0 0,.slice none 0 0,.slice none 0 0] 34 (0,0)) (zq0 BK128.out)):gb128≠gb145));have n14_:=zz ((by rw [hg];exact Nat.ne_of_gt (zu (g:=gb128) (o:= .cells #[.slice none 0 0,.slice none 0 0,.int .i64 0,.slice none 0 0,.slice none 0 0,.slice none 0 0] 34 (0,0)) (zq0 BK128.out)):gb145≠gb128));clear HO131;clear HO134;clear HO138;clear HO141;clear HO144;clear BK127;clear BK128;clear HB;have HO131:=n0_;have HO134:=n1_;have HO138:=n2_;have HO141:=n3_;have HO144:=n4_;have BK127:=n5_;have BK128:=n6_;have HB:=n7_;have BK145:=n8_;have GW145:=n9_;have GE145:=n10_;have NB127_145:=n11_;have NB145_127:=n12_;have NB128_145:=n13_;have NB145_128:=n14_;clear n0_ n1_ n2_ n3_ n4_ n5_ n6_ n7_ n8_ n9_ n10_ n11_ n12_ n13_ n14_;clear hb hbox hg;obtain ⟨Ao14,co14,eo14⟩:=Kd.R_slice HO131.out;subst eo14;have hnb15:=NB145_127.out;have hnc15:=NB127_145.out;have hnb16:=NB145_128.out;have hnc16:=NB128_145.out;have hcz17_0:w13.cell? ⟨gb145,0,none⟩=some (.slice none 0 0):=(zb BK145.out 0).trans rfl;have hcz17_1:w13.cell? ⟨gb145,1,none⟩=some (.slice none 0 0):=(zb BK145.out 1).trans rfl;have hcz17_2:w13.cell? ⟨gb145,2,none⟩=some (.int .i64 0):=(zb BK145.out 2).trans rfl;have hcz17_3:w13.cell? ⟨gb145,3,none⟩=some (.slice none 0 0):=(zb BK145.out 3).trans rfl;have hcz17_4:w13.cell? ⟨gb145,4,none⟩=some (.slice none 0 0):=(zb BK145.out 4).trans rfl;have hcz17_5:w13.cell? ⟨gb145,5,none⟩=some (.slice none 0 0):=(zb BK145.out 5).trans rfl;have hfz17_0:=za BK145.out 0;have hfz17_1:=za BK145.out 1;have hfz17_2:=za BK145.out 2;have hfz17_3:=za BK145.out 3;have hfz17_4:=za BK145.out 4;have hfz17_5:=za BK145.out 5;obtain ⟨Ao18,co18,eo18⟩:=Kd.R_slice HO134.out;subst eo18;obtain ⟨Ao19,co19,eo19⟩:=Kd.R_slice HO138.out;subst eo19;obtain ⟨Ao20,co20,eo20⟩:=Kd.R_slice HO141.out;subst eo20;obtain ⟨Ao21,co21,eo21⟩:=Kd.R_slice HO144.out;subst eo21;have hcz22_0:w13.cell? ⟨gb127,0,none⟩=some (.slice A0_0 l0_0.length c0_0):=(zb BK127.out 0).trans rfl;have hcz22_1:w13.cell? ⟨gb127,1,none⟩=some (.slice A0_1 l0_1.length c0_1):=(zb BK127.out 1).trans rfl;have hcz22_2:w13.cell? ⟨gb127,2,none⟩=some (.int .i64 a0_2):=(zb BK127.out 2).trans rfl;have hcz22_3:w13.cell? ⟨gb127,3,none⟩=some (.slice A0_3 l0_3.length c0_3):=(zb BK127.out 3).trans rfl;have hcz22_4:w13.cell? ⟨gb127,4,none⟩=some (.slice A0_4 l0_4.length c0_4):=(zb BK127.out 4).trans rfl;have hcz22_5:w13.cell? ⟨gb127,5,none⟩=some (.slice A0_5 l0_5.length c0_5):=(zb BK127.out 5).trans rfl;have hfz22_0:=za BK127.out 0;have hfz22_1:=za BK127.out 1;have hfz22_2:=za BK127.out 2;have hfz22_3:=za BK127.out 3;have hfz22_4:=za BK127.out 4;have hfz22_5:=za BK127.out 5)|((with_reducible refine zm (N:=11) rfl ?_);refine Kd.R_lit (Kd.int .i64) _ 3 ?hg (N:=11) ?hd (xs:=([]:List Int)) (inner:=[]) (ok:=fun _=>True) (okp:=fun _=>True) ?hr ?hp (fun _ hk=>hk) trivial (Below.refl _ _) (Nat.le_refl _) zq52 ?_;(case hd=>rfl);(case hg=>rfl);(case hr=>first|(go_simp;done)|(go_simp;rfl));(case hp=>exact (Reps.none _ _));intro v147 w23 ho24 hb hg_ hnew_;clear hg_ hnew_;(first|rw [←Ny146.out] at ho24|(simp only [Int.reduceToNat] at ho24;rw [←Ny146.out] at ho24));have n0_:=zz (Kd.R_below (zq14 HO131.out BK145.out) hb);have n1_:=zz (Kd.R_below (zq14 HO134.out BK145.out) hb);have n2_:=zz (Kd.R_elder' (zq14 HO138.out BK145.out) (Kd.R_base ho24) hb);have n3_:=zz (Kd.R_elder' (zq14 HO141.out BK145.out) (Kd.R_base ho24) hb);have n4_:=zz (Kd.R_elder' (zq14 HO144.out BK145.out) (Kd.R_base ho24) hb);have n5_:=zz (Kd.R_lower (Kd.R_new' (Kd.R_new' (Kd.R_new' ho24 (Kd.R_lt (zq14 HO138.out BK145.out))) (Kd.R_lt (zq14 HO141.out BK145.out))) (Kd.R_lt (zq14 HO144.out BK145.out))) (zc (zq6 GE127.out GE128.out GE145.out)));have n6_:=zz (zi (g:=gb127) (o:= .cells #[.slice A0_0 l0_0.length c0_0,.slice A0_1 l0_1.length c0_1,.int .i64 a0_2,.slice A0_3 l0_3.length c0_3,.slice A0_4 l0_4.length c0_4,.slice A0_5 l0_5.length c0_5] 34 (0,0)) (zq25 NB127_145.out BK127.out) hb);have n7_:=zz (zi (g:=gb128) (o:= .cells #[.slice none 0 0,.slice none 0 0,.int .i64 0,.slice none 0 0,.slice none 0 0,.slice none 0 0] 34 (0,0)) (zq25 NB128_145.out BK128.out) hb);have n8_:=zz (zi (g:=gb145) (o:= .cells #[.slice Ao14 t129.length co14,.slice Ao18 t132.length co18,.int .i64 t135,.slice Ao19 t136.length co19,.slice Ao20 t139.length co20,.slice Ao21 t142.length co21] 34 (0,0)) (by (with_reducible repeat (first|refine zf ?_ _|refine zj ?_|refine zh ?_ _));refine zr (cs:= #[.slice Ao14 t129.length co14,.slice Ao18 t132.length co18,.int .i64 t135,.slice Ao19 t136.length co19,.slice Ao20 t139.length co20,.slice none 0 0]) ?_ 5 _ rfl;(with_reducible repeat (first|refine zf ?_ _|refine zj ?_|refine zh ?_ _));refine zr (cs:= #[.slice Ao14 t129.length co14,.slice Ao18 t132.length co18,.int .i64 t135,.slice Ao19 t136.length co19,.slice none 0 0,.slice none 0 0]) ?_ 4 _ rfl;(with_reducible repeat (first|refine zf ?_ _|refine zj ?_|refine zh ?_ _));refine zr (cs:= #[.slice Ao14 t129.length co14,.slice Ao18 t132.length co18,.int .i64 t135,.slice none 0 0,.slice none 0 0,.slice none 0 0]) ?_ 3 _ rfl;(with_reducible repeat (first|refine zf ?_ _|refine zj ?_|refine zh ?_ _));refine zr (cs:= #[.slice Ao14 t129.length co14,.slice Ao18 t132.length co18,.int .i64 0,.slice none 0 0,.slice none 0 0,.slice none 0 0]) ?_ 2 _ rfl;(with_reducible repeat (first|refine zf ?_ _|refine zj ?_|refine zh ?_ _));refine zr (cs:= #[.slice Ao14 t129.length co14,.slice none 0 0,.int .i64 0,.slice none 0 0,.slice none 0 0,.slice none 0 0]) ?_ 1 _ rfl;(with_reducible repeat (first|refine zf ?_ _|refine zj ?_|refine zh ?_ _));refine zr (cs:= #[.slice none 0 0,.slice none 0 0,.int .i64 0,.slice none 0 0,.slice none 0 0,.slice none 0 0]) ?_ 0 _ rfl;(with_reducible repeat (first|refine zf ?_ _|refine zj ?_|refine zh ?_ _));exact BK145.out) hb);have n9_:=zz (ze (zq6 GE127.out GE128.out GE145.out) hb);clear HO131;clear HO134;clear HO138;clear HO141;clear HO144;clear BK127;clear BK128;clear BK145;clear HB;have HO131:=n0_;have HO134:=n1_;have HO138:=n2_;have HO141:=n3_;have HO144:=n4_;have HO148:=n5_;have BK127:=n6_;have BK128:=n7_;have BK145:=n8_;have HB:=n9_;clear n0_ n1_ n2_ n3_ n4_ n5_ n6_ n7_ n8_ n9_;clear hb ho24;have hcz25_0:w23.cell? ⟨gb127,0,none⟩=some (.slice A0_0 l0_0.length c0_0):=(zb BK127.out 0).trans rfl;have hcz25_1:w23.cell? ⟨gb127,1,none⟩=some (.slice A0_1 l0_1.length c0_1):=(zb BK127.out 1).trans rfl;have hcz25_2:w23.cell? ⟨gb127,2,none⟩=some (.int .i64 a0_2):=(zb BK127.out 2).trans rfl;have hcz25_3:w23.cell? ⟨gb127,3,none⟩=some (.slice A0_3 l0_3.length c0_3):=(zb BK127.out 3).trans rfl;have hcz25_4:w23.cell? ⟨gb127,4,none⟩=some (.slice A0_4 l0_4.length c0_4):=(zb BK127.out 4).trans rfl;have hcz25_5:w23.cell? ⟨gb127,5,none⟩=some (.slice A0_5 l0_5.length c0_5):=(zb BK127.out 5).trans rfl;have hfz25_0:=za BK127.out 0;have hfz25_1:=za BK127.out 1;have hfz25_2:=za BK127.out 2;have hfz25_3:=za BK127.out 3;have hfz25_4:=za BK127.out 4;have hfz25_5:=za BK127.out 5;obtain ⟨i026,hi026,_,hsz26,_⟩:=info_parts info3;obtain ⟨A26,hcut26,hA26,hC26⟩:=print_drop_of (P:=Try.prog) (Value.int .i64) 0 26 3 .i64 Try.underlying26 hi026 hsz26 A0_3 c0_3 l0_3 1 zq11 (of_decide_eq_true zq24) HC0_3.out;have HR149:=zz (Kd.C_of_reads (h1:=fun _=>rfl) (hA26 _ (Kd.reads_of_C HR0_3.out)));have HC149:=zz hC26;clear hA26 hC26 hi026 hsz26)|((with_reducible refine zT (b:= .append) (xs:= #[.tmp 11,.tmp 14]) rfl ?_);at_builtin;refine Kd.R_append_rows (Kd.int .i64) (w0:=w) w.heap.size rfl (.tmp 11) (.tmp 14) 26 3 (.int .i64 0) 8 rfl Try.underlying26 info3 rfl zq26 zq11 v147 y146 (l0_3.drop 1) _ _ _ (fun k_=>some k_≠(.slice Ao19 t136.length co19:Value).ownBlock∧some k_≠(.slice Ao20 t139.length co20:Value).ownBlock∧some k_≠(.slice Ao21 t142.length co21:Value).ownBlock) (fun _=>False) rfl rfl ?aO ?aR (fun _ _ h=>h) (fun _ h=>h.elim) ?aF ?aB ?aS ?aL ?_;(case aR=>first|(rw [←show (l0_3.drop 1).length=(l0_3.length-1) from List.length_drop];repeat (first|exact (Kd.C_below HR149.out HB.out)|(with_reducible refine Kd.C_alloc ?_ _)|(with_reducible refine Kd.C_drewN ?_ _)|(with_reducible refine Kd.C_drew ?_)))|(repeat (first|exact (Kd.C_below HR149.out HB.out)|(with_reducible refine Kd.C_alloc ?_ _)|(with_reducible refine Kd.C_drewN ?_ _)|(with_reducible refine Kd.C_drew ?_))));(case aB=>exact (zq6 GE127.out GE128.out GE145.out));(case aF=>exact (fun k_ hk=>⟨Kd.fresh' (Kd.R_lt (zq5 HO138.out)) k_ hk,Kd.fresh' (Kd.R_lt (zq5 HO141.out)) k_ hk,Kd.fresh' (Kd.R_lt (zq5 HO144.out)) k_ hk⟩));(case aO=>exact (by (with_reducible repeat (first|apply Kd.R_alloc|apply Kd.R_drewN|apply Kd.R_drew));exact Kd.R_mono HO148.out (fun _ hk=>⟨hk.1.1.2,⟨hk.1.2,hk.2⟩⟩)));(case aS=>exact (zc (zq6 GE127.out GE128.out GE145.out)));(case aL=>have:=LMc5.out;have hlx_:=(show (l0_3.drop 1).length=(l0_3.length-1) from List.length_drop);omega);intro v151 w27 ho hb hg hat;rw [←Ny150.out] at ho;have n0_:=zz (zE (g:=gb127) (o:= .cells #[.slice A0_0 l0_0.length c0_0,.slice A0_1 l0_1.length c0_1,.int .i64 a0_2,.slice A0_3 l0_3.length c0_3,.slice A0_4 l0_4.length c0_4,.slice A0_5 l0_5.length c0_5] 34 (0,0)) (zq0 BK127.out) hg (Kd.R_ne HO148.out BK127.out zq26));have n1_:=zz (zE (g:=gb128) (o:= .cells #[.slice none 0 0,.slice none 0 0,.int .i64 0,.slice none 0 0,.slice none 0 0,.slice none 0 0] 34 (0,0)) (zq0 BK128.out) hg (Kd.R_ne HO148.out BK128.out zq26));have n2_:=zz (Kd.R_over' (zq5 HO131.out) (Kd.R_typed (zq5 HO148.out)) zq26 hg);have n3_:=zz (Kd.R_over' (zq5 HO134.out) (Kd.R_typed (zq5 HO148.out)) zq26 hg);have n4_:=zz (Kd.R_after (ok:=(fun k_=>some k_≠(.slice Ao20 t139.length co20:Value).ownBlock∧some k_≠(.slice Ao21 t142.length co21:Value).ownBlock)) (zq5 HO138.out) hg hat);have n5_:=zz (Kd.R_after (ok:=(fun k_=>some k_≠(.slice Ao19 t136.length co19:Value).ownBlock∧some k_≠(.slice Ao21 t142.length co21:Value).ownBlock)) (zq5 HO141.out) hg hat);have n6_:=zz (Kd.R_after (ok:=(fun k_=>some k_≠(.slice Ao19 t136.length co19:Value).ownBlock∧some k_≠(.slice Ao20 t139.length co20:Value).ownBlock)) (zq5 HO144.out) hg hat);have n7_:=zz (zE (g:=gb145) (o:= .cells #[.slice Ao14 t129.length co14,.slice Ao18 t132.length co18,.int .i64 t135,.slice Ao19 t136.length co19,.slice Ao20 t139.length co20,.slice Ao21 t142.length co21] 34 (0,0)) (zq0 BK145.out) hg (Kd.R_ne HO148.out BK145.out zq26));have n8_:=zz (hb);have n9_:=zz (ho);clear BK127;clear BK128;clear HO131;clear HO134;clear HO138;clear HO141;clear HO144;clear BK145;clear HB;clear HO148;have BK127:=n0_;have BK128:=n1_;have HO131:=n2_;have HO134:=n3_;have HO138:=n4_;have HO141:=n5_;have HO144:=n6_;have BK145:=n7_;have HB:=n8_;have HO152:=n9_;clear n0_ n1_ n2_ n3_ n4_ n5_ n6_ n7_ n8_ n9_;clear ho hb hg hat;obtain ⟨Ao28,co28,eo28⟩:=Kd.R_slice HO152.out;subst eo28;have hcz29_0:w27.cell? ⟨gb145,0,none⟩=some (.slice Ao14 t129.length co14):=(zb BK145.out 0).trans rfl;have hcz29_1:w27.cell? ⟨gb145,1,none⟩=some (.slice Ao18 t132.length co18):=(zb BK145.out 1).trans rfl;have hcz29_2:w27.cell? ⟨gb145,2,none⟩=some (.int .i64 t135):=(zb BK145.out 2).trans rfl;have hcz29_3:w27.cell? ⟨gb145,3,none⟩=some (.slice Ao19 t136.length co19):=(zb BK145.out 3).trans rfl;have hcz29_4:w27.cell? ⟨gb145,4,none⟩=some (.slice Ao20 t139.length co20):=(zb BK145.out 4).trans rfl;have hcz29_5:w27.cell? ⟨gb145,5,none⟩=some (.slice Ao21 t142.length co21):=(zb BK145.out 5).trans rfl;have hfz29_0:=za BK145.out 0;have hfz29_1:=za BK145.out 1;have hfz29_2:=za BK145.out 2;have hfz29_3:=za BK145.out 3;have hfz29_4:=za BK145.out 4;have hfz29_5:=za BK145.out 5))
      have n0_:Z0 (Kd.R Kd.string 9 (w27.setCell ⟨gb145,3,none⟩ (.slice Ao28 y150.length co28)) w.heap.size (fun _=>True) (.slice Ao14 t129.length co14) t129):=⟨zq101 HO131.out BK145.out⟩
      have n1_:Z0 (Kd.R k135 135 (w27.setCell ⟨gb145,3,none⟩ (.slice Ao28 y150.length co28)) w.heap.size (fun _=>True) (.slice Ao18 t132.length co18) t132):=⟨zq101 HO134.out BK145.out⟩
      have n2_:Z0 (Kd.R (Kd.int .i64) 3 (w27.setCell ⟨gb145,3,none⟩ (.slice Ao28 y150.length co28)) w.heap.size (fun k_=>some k_≠(.slice Ao20 t139.length co20:Value).ownBlock∧some k_≠(.slice Ao21 t142.length co21:Value).ownBlock∧some k_≠(.slice Ao28 y150.length co28:Value).ownBlock) (.slice Ao19 t136.length co19) t136):=⟨zq69 HO138.out BK145.out⟩
      have n3_:Z0 (Kd.R (Kd.int .i64) 3 (w27.setCell ⟨gb145,3,none⟩ (.slice Ao28 y150.length co28)) w.heap.size (fun k_=>some k_≠(.slice Ao19 t136.length co19:Value).ownBlock∧some k_≠(.slice Ao21 t142.length co21:Value).ownBlock∧some k_≠(.slice Ao28 y150.length co28:Value).ownBlock) (.slice Ao20 t139.length co20) t139):=⟨zq69 HO141.out BK145.out⟩
      have n4_:Z0 (Kd.R (Kd.int .i64) 3 (w27.setCell ⟨gb145,3,none⟩ (.slice Ao28 y150.length co28)) w.heap.size (fun k_=>some k_≠(.slice Ao19 t136.length co19:Value).ownBlock∧some k_≠(.slice Ao20 t139.length co20:Value).ownBlock∧some k_≠(.slice Ao28 y150.length co28:Value).ownBlock) (.slice Ao21 t142.length co21) t142):=⟨zq69 HO144.out BK145.out⟩
      have n5_:Z0 (Kd.R (Kd.int .i64) 3 (w27.setCell ⟨gb145,3,none⟩ (.slice Ao28 y150.length co28)) w.heap.size (fun k_=>some k_≠(.slice Ao19 t136.length co19:Value).ownBlock∧some k_≠(.slice Ao20 t139.length co20:Value).ownBlock∧some k_≠(.slice Ao21 t142.length co21:Value).ownBlock) (.slice Ao28 y150.length co28) y150):=⟨by (with_reducible repeat (first|apply Kd.R_alloc|apply Kd.R_drewN|apply Kd.R_drew));exact Kd.R_mono (Kd.R_far (p:=⟨gb145,3,none⟩) (Kd.R_types HO152.out BK145.out zq26) (fun _ hk=>hk.2) (.slice Ao28 y150.length co28)) (fun _ hk=>⟨hk.1.1,⟨hk.1.2.1,hk.1.2.2⟩⟩)⟩
      have n6_:Z0 ((w27.setCell ⟨gb145,3,none⟩ (.slice Ao28 y150.length co28)).heap[gb127]?=some (.cells #[.slice A0_0 l0_0.length c0_0,.slice A0_1 l0_1.length c0_1,.int .i64 a0_2,.slice A0_3 l0_3.length c0_3,.slice A0_4 l0_4.length c0_4,.slice A0_5 l0_5.length c0_5] 34 (0,0))):=⟨by (with_reducible repeat (first|refine zf ?_ _|refine zj ?_|refine zh ?_ _));refine zD ?_ NB127_145.out _;(with_reducible repeat (first|refine zf ?_ _|refine zj ?_|refine zh ?_ _));exact BK127.out⟩
      have n7_:Z0 ((w27.setCell ⟨gb145,3,none⟩ (.slice Ao28 y150.length co28)).heap[gb128]?=some (.cells #[.slice none 0 0,.slice none 0 0,.int .i64 0,.slice none 0 0,.slice none 0 0,.slice none 0 0] 34 (0,0))):=⟨by (with_reducible repeat (first|refine zf ?_ _|refine zj ?_|refine zh ?_ _));refine zD ?_ NB128_145.out _;(with_reducible repeat (first|refine zf ?_ _|refine zj ?_|refine zh ?_ _));exact BK128.out⟩
      have n8_:Z0 ((w27.setCell ⟨gb145,3,none⟩ (.slice Ao28 y150.length co28)).heap[gb145]?=some (.cells #[.slice Ao14 t129.length co14,.slice Ao18 t132.length co18,.int .i64 t135,.slice Ao28 y150.length co28,.slice Ao20 t139.length co20,.slice Ao21 t142.length co21] 34 (0,0))):=⟨by (with_reducible repeat (first|refine zf ?_ _|refine zj ?_|refine zh ?_ _));refine zr (cs:= #[.slice Ao14 t129.length co14,.slice Ao18 t132.length co18,.int .i64 t135,.slice Ao19 t136.length co19,.slice Ao20 t139.length co20,.slice Ao21 t142.length co21]) ?_ 3 _ rfl;(with_reducible repeat (first|refine zf ?_ _|refine zj ?_|refine zh ?_ _));exact BK145.out⟩
      have n9_:Z0 (Below w.heap.size w (w27.setCell ⟨gb145,3,none⟩ (.slice Ao28 y150.length co28))):=⟨by repeat (first|(with_reducible first|exact HB.out|apply zg|apply zd|apply zk|refine zn ?_ GE127.out|refine zn ?_ GE128.out|refine zn ?_ GE145.out)|exact HB.out)⟩
      (try clear HO131)
      (try clear HO134)
      (try clear HO138)
      (try clear HO141)
      (try clear HO144)
      (try clear HO152)
      (try clear BK127)
      (try clear BK128)
      (try clear BK145)
      (try clear HB)
      generalize (w27.setCell ⟨gb145,3,none⟩ (.slice Ao28 y150.length co28))=w30 at n0_ n1_ n2_ n3_ n4_ n5_ n6_ n7_ n8_ n9_ ⊢
      have HO131:=n0_
      have HO134:=n1_
      have HO138:=n2_
      have HO141:=n3_
      have HO144:=n4_
      have HO152:=n5_
      have BK127:=n6_
      have BK128:=n7_
      have BK145:=n8_
      have HB:=n9_
      clear n0_ n1_ n2_ n3_ n4_ n5_ n6_ n7_ n8_ n9_
      have n0_:=zz (Kd.R_drew HO131.out)
      have n1_:=zz (Kd.R_drew HO134.out)
      have n2_:=zz (Kd.R_drew HO138.out)
      have n3_:=zz (Kd.R_drew HO141.out)
      have n4_:=zz (Kd.R_drew HO144.out)
      have n5_:=zz (Kd.R_drew HO152.out)
      have n6_:=zz (zj BK127.out)
      have n7_:=zz (zj BK128.out)
      have n8_:=zz (zj BK145.out)
      have n9_:=zz (zk HB.out)
      clear HO131
      clear HO134
      clear HO138
      clear HO141
      clear HO144
      clear HO152
      clear BK127
      clear BK128
      clear BK145
      clear HB
      have HO131:=n0_
      have HO134:=n1_
      have HO138:=n2_
      have HO141:=n3_
      have HO144:=n4_
      have HO152:=n5_
      have BK127:=n6_
      have BK128:=n7_
      have BK145:=n8_
      have HB:=n9_
      clear n0_ n1_ n2_ n3_ n4_ n5_ n6_ n7_ n8_ n9_
      have p153:0≤(0:Int):=zq11
      have q153:0<(l0_3.length:Int):=of_decide_eq_true zq24
      obtain ⟨ad153,e153,hx153_0⟩:=Kd.at_int HR0_3.out 0 p153 q153
      have hw153_0:=hx153_0
      (try rw [show ((0:Int)).toNat=0 from rfl] at hw153_0)
      (try rw [show 0*1=0 from rfl] at hw153_0)
      (try rw [Addr.add_zero'] at hw153_0)
      cases e153
      have qi153:(0<l0_3.length)=True:=eq_true zq11
      (try rw [show ((0:Int)).toNat=0 from rfl] at hx153_0)
      (try rw [Addr.add_zero'] at hx153_0)
      replace hx153_0:=(HB.out.cell (World.block_lt_of_cell? w _ hx153_0)).trans hx153_0
      replace p153:=eq_true p153
      replace q153:=eq_true q153
      refine start_ (n:=10) (S:=fun w'=>w'.cell? ⟨gb145,0,none⟩=some (.slice Ao14 t129.length co14)∧w'.cell? ⟨gb145,1,none⟩=some (.slice Ao18 t132.length co18)∧w'.cell? ⟨gb145,2,none⟩=some (.int .i64 t135)∧w'.cell? ⟨gb145,3,none⟩=some (.slice Ao28 y150.length co28)∧w'.cell? ⟨gb145,4,none⟩=some (.slice Ao20 t139.length co20)∧w'.cell? ⟨gb145,5,none⟩=some (.slice Ao21 t142.length co21)∧w'.cell? ⟨gb127,0,none⟩=some (.slice A0_0 l0_0.length c0_0)∧w'.cell? ⟨gb127,1,none⟩=some (.slice A0_1 l0_1.length c0_1)∧w'.cell? ⟨gb127,2,none⟩=some (.int .i64 a0_2)∧w'.cell? ⟨gb127,3,none⟩=some (.slice (some ad153) l0_3.length c0_3)∧w'.cell? ⟨gb127,4,none⟩=some (.slice A0_4 l0_4.length c0_4)∧w'.cell? ⟨gb127,5,none⟩=some (.slice A0_5 l0_5.length c0_5)∧w'.cell? ad153=some (.int .i64 (rd l0_3 0))) (ds:=[9]) #[false,false,false,false,false,false,false,false,false,false] zq15 rfl rfl ⟨(zb BK145.out 0).trans rfl,(zb BK145.out 1).trans rfl,(zb BK145.out 2).trans rfl,(zb BK145.out 3).trans rfl,(zb BK145.out 4).trans rfl,(zb BK145.out 5).trans rfl,(zb BK127.out 0).trans rfl,(zb BK127.out 1).trans rfl,(zb BK127.out 2).trans rfl,(zb BK127.out 3).trans rfl,(zb BK127.out 4).trans rfl,(zb BK127.out 5).trans rfl,((HB.out.cell (World.block_lt_of_cell? w _ hw153_0)).trans hw153_0)⟩ (fun hHeld=> ?_);refine zXa spec_GivePage.tab4 spec_GivePage.bits4 (fun HT_ HW_=> ?_)
      generalize w30.drew=w31 at HO131 HO134 HO138 HO141 HO144 HO152 BK127 BK128 BK145 HB hx153_0 hHeld ⊢
      refine zca (i:=0) (N:=some 17) (v:= ?_) (a':= ?_) #[true,false,false,false,false,false,false,false,false,false] rfl rfl (zV HT_.out zq15) (fun _ _ _ h=>h) (Or.inl ⟨zq44,zq27⟩) zq12 ?_
      refine zca (i:=2) (N:=some 19) (v:= ?_) (a':= ?_) #[true,false,true,false,false,false,false,false,false,false] rfl rfl (zV HT_.out zq15) (fun _ _ _ h=>h) (Or.inl ⟨zq44,zq27⟩) zq12 ?_
      refine take_ (i:=1) (N:=some 18) (v:= ?_) (a':= ?_) #[true,true,true,false,false,false,false,false,false,false] rfl rfl (zaa HT_.out HW_.out zq15) (fun _ _ _ h=>h) (Or.inl ⟨zq44,zq97⟩) hHeld zq12 ?_
      refine take_ (i:=3) (N:=some 20) (v:= ?_) (a':= ?_) #[true,true,true,true,false,false,false,false,false,false] rfl rfl (zaa HT_.out HW_.out zq15) (fun _ _ _ h=>h) (Or.inl ⟨zq44,zq97⟩) hHeld zq12 ?_
      refine zca (i:=4) (N:=some 21) (v:= ?_) (a':= ?_) #[true,true,true,true,true,false,false,false,false,false] rfl rfl (zV HT_.out zq15) (fun _ _ _ h=>h) (Or.inl ⟨zq44,zq27⟩) zq12 ?_
      refine take_ (i:=5) (N:=some 22) (v:= ?_) (a':= ?_) #[true,true,true,true,true,true,false,false,false,false] rfl rfl (zaa HT_.out HW_.out zq15) (fun _ _ _ h=>h) (Or.inl ⟨zq44,zq97⟩) hHeld zq12 ?_
      refine one_ (i:=6) (N:=some 23) #[true,true,true,true,true,true,true,false,false,false] rfl rfl (zoa HT_.out zq15) zq26 (fun K hK=> ?_)
      refine value_ (w1:= ?_) (v:= ?_) zq44 rfl ?_ ?_
      rotate_left 2
      ·go_simp
       constructor
       ·rfl
       ·rfl
      refine hK.out _ _ ⟨(zb (zh BK145.out _) 0).trans rfl,(zb (zh BK145.out _) 1).trans rfl,(zb (zh BK145.out _) 2).trans rfl,(zb (zh BK145.out _) 3).trans rfl,(zb (zh BK145.out _) 4).trans rfl,(zb (zh BK145.out _) 5).trans rfl,(zb (zh BK127.out _) 0).trans rfl,(zb (zh BK127.out _) 1).trans rfl,(zb (zh BK127.out _) 2).trans rfl,(zb (zh BK127.out _) 3).trans rfl,(zb (zh BK127.out _) 4).trans rfl,(zb (zh BK127.out _) 5).trans rfl,(World.cell?_alloc_lt _ _ _ (World.block_lt_of_cell? _ _ (((HB.out.cell (World.block_lt_of_cell? w _ hw153_0)).trans hw153_0)))).trans (((HB.out.cell (World.block_lt_of_cell? w _ hw153_0)).trans hw153_0))⟩ (fun hHeld=> ?_)
      clear hK K
      refine zAa (a':= ?_) ?_ ?_
      rotate_left
      ·show Act.put _ (some 23) _=_
       simp only [Act.put,List.setIfInBounds_toArray,List.set_cons_zero,List.set_cons_succ,zfa,zOa]
       rfl
      refine one_ (i:=7) (N:=some 24) #[true,true,true,true,true,true,true,true,false,false] rfl rfl (zoa HT_.out zq15) zq26 (fun K hK=> ?_)
      refine Kd.R_append_step (Kd.int .i64) (w0:=w) w.heap.size zq44 (.tmp 18) (.tmp 23) 26 3 (.int .i64 0) 8 rfl Try.underlying26 info3 rfl zq26 zq11 (.slice Ao21 t142.length co21) t142 (rd l0_3 0) [.int .i64 (rd l0_3 0)] (fun k_=>some k_≠(.slice Ao19 t136.length co19:Value).ownBlock∧some k_≠(.slice Ao20 t139.length co20:Value).ownBlock∧some k_≠(.slice Ao28 y150.length co28:Value).ownBlock) (fun _=>False) rfl rfl ?aP (fun _ hk=>hk.elim) ?aF ?aO ?aB ?aS ?aL ?_
      (case aP=>exact rfl)
      (case aB=>exact (zq6 GE127.out GE128.out GE145.out))
      (case aF=>exact (fun k_ hk=>⟨Kd.fresh' (Kd.R_lt (zq5 HO138.out)) k_ hk,Kd.fresh' (Kd.R_lt (zq5 HO141.out)) k_ hk,Kd.fresh' (Kd.R_lt (zq5 HO152.out)) k_ hk⟩))
      (case aO=>exact (zq5 HO144.out))
      (case aS=>exact (zc (zq6 GE127.out GE128.out GE145.out)))
      (case aL=>have:=LMc7.out;omega)
      intro v155 w32 ho hb hg hat
      rw [←Ny154.out] at ho
      have n0_:=zz (zE (g:=gb127) (o:= .cells #[.slice A0_0 l0_0.length c0_0,.slice A0_1 l0_1.length c0_1,.int .i64 a0_2,.slice (some ad153) l0_3.length c0_3,.slice A0_4 l0_4.length c0_4,.slice A0_5 l0_5.length c0_5] 34 (0,0)) (zq0 BK127.out) hg (Kd.R_ne HO144.out BK127.out zq26))
      have n1_:=zz (zE (g:=gb128) (o:= .cells #[.slice none 0 0,.slice none 0 0,.int .i64 0,.slice none 0 0,.slice none 0 0,.slice none 0 0] 34 (0,0)) (zq0 BK128.out) hg (Kd.R_ne HO144.out BK128.out zq26))
      have n2_:=zz (Kd.R_over' (zq5 HO131.out) (Kd.R_typed (zq5 HO144.out)) zq26 hg)
      have n3_:=zz (Kd.R_over' (zq5 HO134.out) (Kd.R_typed (zq5 HO144.out)) zq26 hg)
      have n4_:=zz (Kd.R_after (ok:=(fun k_=>some k_≠(.slice Ao20 t139.length co20:Value).ownBlock∧some k_≠(.slice Ao28 y150.length co28:Value).ownBlock)) (zq113 HO138.out) hg hat)
      have n5_:=zz (Kd.R_after (ok:=(fun k_=>some k_≠(.slice Ao19 t136.length co19:Value).ownBlock∧some k_≠(.slice Ao28 y150.length co28:Value).ownBlock)) (zq113 HO141.out) hg hat)
      have n6_:=zz (zE (g:=gb145) (o:= .cells #[.slice Ao14 t129.length co14,.slice Ao18 t132.length co18,.int .i64 t135,.slice Ao28 y150.length co28,.slice Ao20 t139.length co20,.slice Ao21 t142.length co21] 34 (0,0)) (zq0 BK145.out) hg (Kd.R_ne HO144.out BK145.out zq26))
      have n7_:=zz (Kd.R_after (ok:=(fun k_=>some k_≠(.slice Ao19 t136.length co19:Value).ownBlock∧some k_≠(.slice Ao20 t139.length co20:Value).ownBlock)) (by (with_reducible repeat (first|apply Kd.R_alloc|apply Kd.R_drewN|apply Kd.R_drew));exact Kd.R_mono HO152.out (fun _ hk=>⟨⟨hk.1,hk.2.1⟩,hk.2.2⟩)) hg hat)
      have n8_:=zz (hb)
      have n9_:=zz (ho)
      clear BK127
      clear BK128
      clear HO131
      clear HO134
      clear HO138
      clear HO141
      clear BK145
      clear HO152
      clear HB
      clear HO144
      have BK127:=n0_
      have BK128:=n1_
      have HO131:=n2_
      have HO134:=n3_
      have HO138:=n4_
      have HO141:=n5_
      have BK145:=n6_
      have HO152:=n7_
      have HB:=n8_
      have HO156:=n9_
      clear n0_ n1_ n2_ n3_ n4_ n5_ n6_ n7_ n8_ n9_
      clear ho hb hg hat
      obtain ⟨Ao33,co33,eo33⟩:=Kd.R_slice HO156.out
      (first|subst eo33|(injection eo33 with f1_ f2_ f3_;have f4_:=f1_.symm;have f5_:=f3_.symm;clear f1_ f2_ f3_;subst f4_;subst f5_))
      refine hK.out _ _ ⟨(zb BK145.out 0).trans rfl,(zb BK145.out 1).trans rfl,(zb BK145.out 2).trans rfl,(zb BK145.out 3).trans rfl,(zb BK145.out 4).trans rfl,(zb BK145.out 5).trans rfl,(zb BK127.out 0).trans rfl,(zb BK127.out 1).trans rfl,(zb BK127.out 2).trans rfl,(zb BK127.out 3).trans rfl,(zb BK127.out 4).trans rfl,(zb BK127.out 5).trans rfl,((HB.out.cell (World.block_lt_of_cell? w _ hw153_0)).trans hw153_0)⟩ (fun hHeld=> ?_)
      clear hK K
      refine zAa (a':= ?_) ?_ ?_
      rotate_left
      ·show Act.put _ (some 24) _=_
       simp only [Act.put,List.setIfInBounds_toArray,List.set_cons_zero,List.set_cons_succ,zfa,zOa]
       rfl
      refine zca (i:=8) (N:=some 25) (v:= ?_) (a':= ?_) #[true,true,true,true,true,true,true,true,true,false] rfl rfl (zV HT_.out zq15) (fun _ _ _ h=>h) (Or.inl ⟨zq44,zq27⟩) zq12 ?_
      refine last_ (i:=9) (N:=none) #[true,true,true,true,true,true,true,true,true,true] rfl rfl (zoa HT_.out zq15) zq26 (fun K hK=> ?_)
      have hs34:w32.cell? ⟨gb145,5,none⟩=some (.slice Ao21 t142.length co21):=(zb BK145.out 5).trans rfl
      have hfs34:=za BK145.out 5
      have hns34_0:=NB127_145.out
      have hns34_1:=NB128_145.out
      have hms34_0:=NB145_127.out
      have hms34_1:=NB145_128.out
      refine skip_ (w1:= ?_) zq44 rfl ?_ ?_
      rotate_left
      ·go_simp
       rfl
      refine hK.out _ _ ?_
      clear hK K
      refine done_ (done_of HT_.out zq15) ?_
      try go_wp2
      have n0_:Z0 (Kd.R Kd.string 9 (w32.setCell ⟨gb145,5,none⟩ (.slice Ao33 y154.length co33)) w.heap.size (fun _=>True) (.slice Ao14 t129.length co14) t129):=⟨zq102 HO131.out BK145.out⟩
      have n1_:Z0 (Kd.R k135 135 (w32.setCell ⟨gb145,5,none⟩ (.slice Ao33 y154.length co33)) w.heap.size (fun _=>True) (.slice Ao18 t132.length co18) t132):=⟨zq102 HO134.out BK145.out⟩
      have n2_:Z0 (Kd.R (Kd.int .i64) 3 (w32.setCell ⟨gb145,5,none⟩ (.slice Ao33 y154.length co33)) w.heap.size (fun k_=>some k_≠(.slice Ao20 t139.length co20:Value).ownBlock∧some k_≠(.slice Ao28 y150.length co28:Value).ownBlock∧some k_≠(.slice Ao33 y154.length co33:Value).ownBlock) (.slice Ao19 t136.length co19) t136):=⟨zq70 HO138.out BK145.out⟩
      have n3_:Z0 (Kd.R (Kd.int .i64) 3 (w32.setCell ⟨gb145,5,none⟩ (.slice Ao33 y154.length co33)) w.heap.size (fun k_=>some k_≠(.slice Ao19 t136.length co19:Value).ownBlock∧some k_≠(.slice Ao28 y150.length co28:Value).ownBlock∧some k_≠(.slice Ao33 y154.length co33:Value).ownBlock) (.slice Ao20 t139.length co20) t139):=⟨zq70 HO141.out BK145.out⟩
      have n4_:Z0 (Kd.R (Kd.int .i64) 3 (w32.setCell ⟨gb145,5,none⟩ (.slice Ao33 y154.length co33)) w.heap.size (fun k_=>some k_≠(.slice Ao19 t136.length co19:Value).ownBlock∧some k_≠(.slice Ao20 t139.length co20:Value).ownBlock∧some k_≠(.slice Ao33 y154.length co33:Value).ownBlock) (.slice Ao28 y150.length co28) y150):=⟨zq70 HO152.out BK145.out⟩
      have n5_:Z0 (Kd.R (Kd.int .i64) 3 (w32.setCell ⟨gb145,5,none⟩ (.slice Ao33 y154.length co33)) w.heap.size (fun k_=>some k_≠(.slice Ao19 t136.length co19:Value).ownBlock∧some k_≠(.slice Ao20 t139.length co20:Value).ownBlock∧some k_≠(.slice Ao28 y150.length co28:Value).ownBlock) (.slice Ao33 y154.length co33) y154):=⟨by (with_reducible repeat (first|apply Kd.R_alloc|apply Kd.R_drewN|apply Kd.R_drew));exact Kd.R_mono (Kd.R_far (p:=⟨gb145,5,none⟩) (Kd.R_types HO156.out BK145.out zq26) (fun _ hk=>hk.2) (.slice Ao33 y154.length co33)) (fun _ hk=>⟨hk.1.1,⟨hk.1.2.1,hk.1.2.2⟩⟩)⟩
      have n6_:Z0 ((w32.setCell ⟨gb145,5,none⟩ (.slice Ao33 y154.length co33)).heap[gb127]?=some (.cells #[.slice A0_0 l0_0.length c0_0,.slice A0_1 l0_1.length c0_1,.int .i64 a0_2,.slice (some ad153) l0_3.length c0_3,.slice A0_4 l0_4.length c0_4,.slice A0_5 l0_5.length c0_5] 34 (0,0))):=⟨by (with_reducible repeat (first|refine zf ?_ _|refine zj ?_|refine zh ?_ _));refine zD ?_ NB127_145.out _;(with_reducible repeat (first|refine zf ?_ _|refine zj ?_|refine zh ?_ _));exact BK127.out⟩
      have n7_:Z0 ((w32.setCell ⟨gb145,5,none⟩ (.slice Ao33 y154.length co33)).heap[gb128]?=some (.cells #[.slice none 0 0,.slice none 0 0,.int .i64 0,.slice none 0 0,.slice none 0 0,.slice none 0 0] 34 (0,0))):=⟨by (with_reducible repeat (first|refine zf ?_ _|refine zj ?_|refine zh ?_ _));refine zD ?_ NB128_145.out _;(with_reducible repeat (first|refine zf ?_ _|refine zj ?_|refine zh ?_ _));exact BK128.out⟩
      have n8_:Z0 ((w32.setCell ⟨gb145,5,none⟩ (.slice Ao33 y154.length co33)).heap[gb145]?=some (.cells #[.slice Ao14 t129.length co14,.slice Ao18 t132.length co18,.int .i64 t135,.slice Ao28 y150.length co28,.slice Ao20 t139.length co20,.slice Ao33 y154.length co33] 34 (0,0))):=⟨by (with_reducible repeat (first|refine zf ?_ _|refine zj ?_|refine zh ?_ _));refine zr (cs:= #[.slice Ao14 t129.length co14,.slice Ao18 t132.length co18,.int .i64 t135,.slice Ao28 y150.length co28,.slice Ao20 t139.length co20,.slice Ao21 t142.length co21]) ?_ 5 _ rfl;(with_reducible repeat (first|refine zf ?_ _|refine zj ?_|refine zh ?_ _));exact BK145.out⟩
      have n9_:Z0 (Below w.heap.size w (w32.setCell ⟨gb145,5,none⟩ (.slice Ao33 y154.length co33))):=⟨by repeat (first|(with_reducible first|exact HB.out|apply zg|apply zd|apply zk|refine zn ?_ GE127.out|refine zn ?_ GE128.out|refine zn ?_ GE145.out)|exact HB.out)⟩
      (try clear HO131)
      (try clear HO134)
      (try clear HO138)
      (try clear HO141)
      (try clear HO152)
      (try clear HO156)
      (try clear BK127)
      (try clear BK128)
      (try clear BK145)
      (try clear HB)
      generalize (w32.setCell ⟨gb145,5,none⟩ (.slice Ao33 y154.length co33))=w35 at n0_ n1_ n2_ n3_ n4_ n5_ n6_ n7_ n8_ n9_ ⊢
      have HO131:=n0_
      have HO134:=n1_
      have HO138:=n2_
      have HO141:=n3_
      have HO152:=n4_
      have HO156:=n5_
      have BK127:=n6_
      have BK128:=n7_
      have BK145:=n8_
      have HB:=n9_
      clear n0_ n1_ n2_ n3_ n4_ n5_ n6_ n7_ n8_ n9_
      have n0_:=zz (Kd.R_drew HO131.out)
      have n1_:=zz (Kd.R_drew HO134.out)
      have n2_:=zz (Kd.R_drew HO138.out)
      have n3_:=zz (Kd.R_drew HO141.out)
      have n4_:=zz (Kd.R_drew HO152.out)
      have n5_:=zz (Kd.R_drew HO156.out)
      have n6_:=zz (zj BK127.out)
      have n7_:=zz (zj BK128.out)
      have n8_:=zz (zj BK145.out)
      have n9_:=zz (zk HB.out)
      clear HO131
      clear HO134
      clear HO138
      clear HO141
      clear HO152
      clear HO156
      clear BK127
      clear BK128
      clear BK145
      clear HB
      have HO131:=n0_
      have HO134:=n1_
      have HO138:=n2_
      have HO141:=n3_
      have HO152:=n4_
      have HO156:=n5_
      have BK127:=n6_
      have BK128:=n7_
      have BK145:=n8_
      have HB:=n9_
      clear n0_ n1_ n2_ n3_ n4_ n5_ n6_ n7_ n8_ n9_
      have p157:0≤(0:Int):=zq11
      have q157:0<(l0_3.length:Int):=of_decide_eq_true zq24
      obtain ⟨ad157,e157,hx157_0⟩:=Kd.at_int HR0_3.out 0 p157 q157
      have hw157_0:=hx157_0
      (try rw [show ((0:Int)).toNat=0 from rfl] at hw157_0)
      (try rw [show 0*1=0 from rfl] at hw157_0)
      (try rw [Addr.add_zero'] at hw157_0)
      obtain rfl:ad153=ad157:=(by injection e157)
      have qi157:(0<l0_3.length)=True:=eq_true zq11
      (try rw [show ((0:Int)).toNat=0 from rfl] at hx157_0)
      (try rw [Addr.add_zero'] at hx157_0)
      replace hx157_0:=(HB.out.cell (World.block_lt_of_cell? w _ hx157_0)).trans hx157_0
      replace p157:=eq_true p157
      replace q157:=eq_true q157
      refine start_ (n:=7) (S:=fun w'=>w'.cell? ⟨gb145,0,none⟩=some (.slice Ao14 t129.length co14)∧w'.cell? ⟨gb145,1,none⟩=some (.slice Ao18 t132.length co18)∧w'.cell? ⟨gb145,2,none⟩=some (.int .i64 t135)∧w'.cell? ⟨gb145,3,none⟩=some (.slice Ao28 y150.length co28)∧w'.cell? ⟨gb145,4,none⟩=some (.slice Ao20 t139.length co20)∧w'.cell? ⟨gb145,5,none⟩=some (.slice Ao33 y154.length co33)∧w'.cell? ⟨gb127,0,none⟩=some (.slice A0_0 l0_0.length c0_0)∧w'.cell? ⟨gb127,1,none⟩=some (.slice A0_1 l0_1.length c0_1)∧w'.cell? ⟨gb127,2,none⟩=some (.int .i64 a0_2)∧w'.cell? ⟨gb127,3,none⟩=some (.slice (some ad153) l0_3.length c0_3)∧w'.cell? ⟨gb127,4,none⟩=some (.slice A0_4 l0_4.length c0_4)∧w'.cell? ⟨gb127,5,none⟩=some (.slice A0_5 l0_5.length c0_5)∧w'.cell? ad153=some (.int .i64 (rd l0_3 0))) (ds:=[]) #[false,false,false,false,false,false,false] zq15 rfl rfl ⟨(zb BK145.out 0).trans rfl,(zb BK145.out 1).trans rfl,(zb BK145.out 2).trans rfl,(zb BK145.out 3).trans rfl,(zb BK145.out 4).trans rfl,(zb BK145.out 5).trans rfl,(zb BK127.out 0).trans rfl,(zb BK127.out 1).trans rfl,(zb BK127.out 2).trans rfl,(zb BK127.out 3).trans rfl,(zb BK127.out 4).trans rfl,(zb BK127.out 5).trans rfl,((HB.out.cell (World.block_lt_of_cell? w _ hw157_0)).trans hw157_0)⟩ (fun hHeld=> ?_)
      generalize w35.drew=w36 at HO131 HO134 HO138 HO141 HO152 HO156 BK127 BK128 BK145 HB hx157_0 hHeld ⊢
      refine zca (i:=1) (N:=some 27) (v:= ?_) (a':= ?_) #[false,true,false,false,false,false,false] rfl rfl zq15 (fun _ _ _ h=>h) (Or.inl ⟨zq44,zq27⟩) zq12 ?_
      refine take_ (i:=0) (N:=some 26) (v:= ?_) (a':= ?_) #[true,true,false,false,false,false,false] rfl rfl zq15 (fun _ _ _ h=>h) (Or.inl ⟨zq44,zq97⟩) hHeld zq12 ?_
      refine take_ (i:=2) (N:=some 28) (v:= ?_) (a':= ?_) #[true,true,true,false,false,false,false] rfl rfl zq15 (fun _ _ _ h=>h) (Or.inl ⟨zq44,zq97⟩) hHeld zq12 ?_
      refine zca (i:=3) (N:=some 29) (v:= ?_) (a':= ?_) #[true,true,true,true,false,false,false] rfl rfl zq15 (fun _ _ _ h=>h) (Or.inl ⟨zq44,zq27⟩) zq12 ?_
      refine take_ (i:=4) (N:=some 30) (v:= ?_) (a':= ?_) #[true,true,true,true,true,false,false] rfl rfl zq15 (fun _ _ _ h=>h) (Or.inl ⟨zq44,zq97⟩) hHeld zq12 ?_
      refine one_ (i:=5) (N:=none) #[true,true,true,true,true,true,false] rfl rfl zq15 zq26 (fun K hK=> ?_)
      have hs37:w36.cell? ⟨gb128,0,none⟩=some (.slice none 0 0):=(zb BK128.out 0).trans rfl
      have hfs37:=za BK128.out 0
      have hns37_0:=NB127_128.out
      have hns37_2:=NB145_128.out
      have hms37_0:=NB128_127.out
      have hms37_2:=NB128_145.out
      have hs38:w36.cell? ⟨gb128,1,none⟩=some (.slice none 0 0):=(zb BK128.out 1).trans rfl
      have hfs38:=za BK128.out 1
      have hns38_0:=NB127_128.out
      have hns38_2:=NB145_128.out
      have hms38_0:=NB128_127.out
      have hms38_2:=NB128_145.out
      have hs39:w36.cell? ⟨gb128,2,none⟩=some (.int .i64 0):=(zb BK128.out 2).trans rfl
      have hfs39:=za BK128.out 2
      have hns39_0:=NB127_128.out
      have hns39_2:=NB145_128.out
      have hms39_0:=NB128_127.out
      have hms39_2:=NB128_145.out
      have hs40:w36.cell? ⟨gb128,3,none⟩=some (.slice none 0 0):=(zb BK128.out 3).trans rfl
      have hfs40:=za BK128.out 3
      have hns40_0:=NB127_128.out
      have hns40_2:=NB145_128.out
      have hms40_0:=NB128_127.out
      have hms40_2:=NB128_145.out
      have hs41:w36.cell? ⟨gb128,4,none⟩=some (.slice none 0 0):=(zb BK128.out 4).trans rfl
      have hfs41:=za BK128.out 4
      have hns41_0:=NB127_128.out
      have hns41_2:=NB145_128.out
      have hms41_0:=NB128_127.out
      have hms41_2:=NB128_145.out
      have hs42:w36.cell? ⟨gb128,5,none⟩=some (.slice none 0 0):=(zb BK128.out 5).trans rfl
      have hfs42:=za BK128.out 5
      have hns42_0:=NB127_128.out
      have hns42_2:=NB145_128.out
      have hms42_0:=NB128_127.out
      have hms42_2:=NB128_145.out
      refine skip_ (w1:= ?_) zq44 rfl ?_ ?_
      rotate_left
      ·go_simp
       rfl
      refine hK.out _ _ ⟨((zl (p:=⟨gb128,_,none⟩) NB145_128.out _).trans (((zl (p:=⟨gb128,_,none⟩) NB145_128.out _).trans (((zl (p:=⟨gb128,_,none⟩) NB145_128.out _).trans (((zl (p:=⟨gb128,_,none⟩) NB145_128.out _).trans (((zl (p:=⟨gb128,_,none⟩) NB145_128.out _).trans (((zl (p:=⟨gb128,_,none⟩) NB145_128.out _).trans (hHeld.1)))))))))))),((zl (p:=⟨gb128,_,none⟩) NB145_128.out _).trans (((zl (p:=⟨gb128,_,none⟩) NB145_128.out _).trans (((zl (p:=⟨gb128,_,none⟩) NB145_128.out _).trans (((zl (p:=⟨gb128,_,none⟩) NB145_128.out _).trans (((zl (p:=⟨gb128,_,none⟩) NB145_128.out _).trans (((zl (p:=⟨gb128,_,none⟩) NB145_128.out _).trans (hHeld.2.1)))))))))))),((zl (p:=⟨gb128,_,none⟩) NB145_128.out _).trans (((zl (p:=⟨gb128,_,none⟩) NB145_128.out _).trans (((zl (p:=⟨gb128,_,none⟩) NB145_128.out _).trans (((zl (p:=⟨gb128,_,none⟩) NB145_128.out _).trans (((zl (p:=⟨gb128,_,none⟩) NB145_128.out _).trans (((zl (p:=⟨gb128,_,none⟩) NB145_128.out _).trans (hHeld.2.2.1)))))))))))),((zl (p:=⟨gb128,_,none⟩) NB145_128.out _).trans (((zl (p:=⟨gb128,_,none⟩) NB145_128.out _).trans (((zl (p:=⟨gb128,_,none⟩) NB145_128.out _).trans (((zl (p:=⟨gb128,_,none⟩) NB145_128.out _).trans (((zl (p:=⟨gb128,_,none⟩) NB145_128.out _).trans (((zl (p:=⟨gb128,_,none⟩) NB145_128.out _).trans (hHeld.2.2.2.1)))))))))))),((zl (p:=⟨gb128,_,none⟩) NB145_128.out _).trans (((zl (p:=⟨gb128,_,none⟩) NB145_128.out _).trans (((zl (p:=⟨gb128,_,none⟩) NB145_128.out _).trans (((zl (p:=⟨gb128,_,none⟩) NB145_128.out _).trans (((zl (p:=⟨gb128,_,none⟩) NB145_128.out _).trans (((zl (p:=⟨gb128,_,none⟩) NB145_128.out _).trans (hHeld.2.2.2.2.1)))))))))))),((zl (p:=⟨gb128,_,none⟩) NB145_128.out _).trans (((zl (p:=⟨gb128,_,none⟩) NB145_128.out _).trans (((zl (p:=⟨gb128,_,none⟩) NB145_128.out _).trans (((zl (p:=⟨gb128,_,none⟩) NB145_128.out _).trans (((zl (p:=⟨gb128,_,none⟩) NB145_128.out _).trans (((zl (p:=⟨gb128,_,none⟩) NB145_128.out _).trans (hHeld.2.2.2.2.2.1)))))))))))),((zl (p:=⟨gb128,_,none⟩) NB127_128.out _).trans (((zl (p:=⟨gb128,_,none⟩) NB127_128.out _).trans (((zl (p:=⟨gb128,_,none⟩) NB127_128.out _).trans (((zl (p:=⟨gb128,_,none⟩) NB127_128.out _).trans (((zl (p:=⟨gb128,_,none⟩) NB127_128.out _).trans (((zl (p:=⟨gb128,_,none⟩) NB127_128.out _).trans (hHeld.2.2.2.2.2.2.1)))))))))))),((zl (p:=⟨gb128,_,none⟩) NB127_128.out _).trans (((zl (p:=⟨gb128,_,none⟩) NB127_128.out _).trans (((zl (p:=⟨gb128,_,none⟩) NB127_128.out _).trans (((zl (p:=⟨gb128,_,none⟩) NB127_128.out _).trans (((zl (p:=⟨gb128,_,none⟩) NB127_128.out _).trans (((zl (p:=⟨gb128,_,none⟩) NB127_128.out _).trans (hHeld.2.2.2.2.2.2.2.1)))))))))))),((zl (p:=⟨gb128,_,none⟩) NB127_128.out _).trans (((zl (p:=⟨gb128,_,none⟩) NB127_128.out _).trans (((zl (p:=⟨gb128,_,none⟩) NB127_128.out _).trans (((zl (p:=⟨gb128,_,none⟩) NB127_128.out _).trans (((zl (p:=⟨gb128,_,none⟩) NB127_128.out _).trans (((zl (p:=⟨gb128,_,none⟩) NB127_128.out _).trans (hHeld.2.2.2.2.2.2.2.2.1)))))))))))),((zl (p:=⟨gb128,_,none⟩) NB127_128.out _).trans (((zl (p:=⟨gb128,_,none⟩) NB127_128.out _).trans (((zl (p:=⟨gb128,_,none⟩) NB127_128.out _).trans (((zl (p:=⟨gb128,_,none⟩) NB127_128.out _).trans (((zl (p:=⟨gb128,_,none⟩) NB127_128.out _).trans (((zl (p:=⟨gb128,_,none⟩) NB127_128.out _).trans (hHeld.2.2.2.2.2.2.2.2.2.1)))))))))))),((zl (p:=⟨gb128,_,none⟩) NB127_128.out _).trans (((zl (p:=⟨gb128,_,none⟩) NB127_128.out _).trans (((zl (p:=⟨gb128,_,none⟩) NB127_128.out _).trans (((zl (p:=⟨gb128,_,none⟩) NB127_128.out _).trans (((zl (p:=⟨gb128,_,none⟩) NB127_128.out _).trans (((zl (p:=⟨gb128,_,none⟩) NB127_128.out _).trans (hHeld.2.2.2.2.2.2.2.2.2.2.1)))))))))))),((zl (p:=⟨gb128,_,none⟩) NB127_128.out _).trans (((zl (p:=⟨gb128,_,none⟩) NB127_128.out _).trans (((zl (p:=⟨gb128,_,none⟩) NB127_128.out _).trans (((zl (p:=⟨gb128,_,none⟩) NB127_128.out _).trans (((zl (p:=⟨gb128,_,none⟩) NB127_128.out _).trans (((zl (p:=⟨gb128,_,none⟩) NB127_128.out _).trans (hHeld.2.2.2.2.2.2.2.2.2.2.2.1)))))))))))),((zl (p:=⟨gb128,_,none⟩) (zq21 GW128.out) _).trans (((zl (p:=⟨gb128,_,none⟩) (zq21 GW128.out) _).trans (((zl (p:=⟨gb128,_,none⟩) (zq21 GW128.out) _).trans (((zl (p:=⟨gb128,_,none⟩) (zq21 GW128.out) _).trans (((zl (p:=⟨gb128,_,none⟩) (zq21 GW128.out) _).trans (((zl (p:=⟨gb128,_,none⟩) (zq21 GW128.out) _).trans (hHeld.2.2.2.2.2.2.2.2.2.2.2.2))))))))))))⟩ (fun hHeld=> ?_)
      clear hK K
      refine zca (i:=6) (N:=some 3) (v:= ?_) (a':= ?_) #[true,true,true,true,true,true,true] rfl rfl zq15 (fun _ _ _ h=>h) (Or.inl ⟨zq44,zq27⟩) zq12 ?_
      refine done_ zq15 ?_
      try go_wp2
      refine bodyPost_ret (zN rfl _ _ gb128 34 #[.slice Ao14 t129.length co14,.slice Ao18 t132.length co18,.int .i64 t135,.slice Ao28 y150.length co28,.slice Ao20 t139.length co20,.slice Ao33 y154.length co33] (0,0) _ rfl (by (with_reducible repeat (first|refine zf ?_ _|refine zj ?_|refine zh ?_ _));refine zr (cs:= #[.slice Ao14 t129.length co14,.slice Ao18 t132.length co18,.int .i64 t135,.slice Ao28 y150.length co28,.slice Ao20 t139.length co20,.slice none 0 0]) ?_ 5 _ rfl;(with_reducible repeat (first|refine zf ?_ _|refine zj ?_|refine zh ?_ _));refine zr (cs:= #[.slice Ao14 t129.length co14,.slice Ao18 t132.length co18,.int .i64 t135,.slice Ao28 y150.length co28,.slice none 0 0,.slice none 0 0]) ?_ 4 _ rfl;(with_reducible repeat (first|refine zf ?_ _|refine zj ?_|refine zh ?_ _));refine zr (cs:= #[.slice Ao14 t129.length co14,.slice Ao18 t132.length co18,.int .i64 t135,.slice none 0 0,.slice none 0 0,.slice none 0 0]) ?_ 3 _ rfl;(with_reducible repeat (first|refine zf ?_ _|refine zj ?_|refine zh ?_ _));refine zr (cs:= #[.slice Ao14 t129.length co14,.slice Ao18 t132.length co18,.int .i64 0,.slice none 0 0,.slice none 0 0,.slice none 0 0]) ?_ 2 _ rfl;(with_reducible repeat (first|refine zf ?_ _|refine zj ?_|refine zh ?_ _));refine zr (cs:= #[.slice Ao14 t129.length co14,.slice none 0 0,.int .i64 0,.slice none 0 0,.slice none 0 0,.slice none 0 0]) ?_ 1 _ rfl;(with_reducible repeat (first|refine zf ?_ _|refine zj ?_|refine zh ?_ _));refine zr (cs:= #[.slice none 0 0,.slice none 0 0,.int .i64 0,.slice none 0 0,.slice none 0 0,.slice none 0 0]) ?_ 0 _ rfl;(with_reducible repeat (first|refine zf ?_ _|refine zj ?_|refine zh ?_ _));exact BK128.out) Try.underlying34 rfl zq15) rfl ?_
      exact ⟨_,_,_,_,_,zq10,zq51 HO131.out BK128.out,zq51 HO134.out BK128.out,zq46 HO152.out BK128.out,zq46 HO141.out BK128.out,by (with_reducible repeat (first|apply Kd.R_alloc|apply Kd.R_drewN|apply Kd.R_drew));exact Kd.R_mono (Kd.R_far (p:=⟨gb128,5,none⟩) (Kd.R_far (p:=⟨gb128,4,none⟩) (Kd.R_far (p:=⟨gb128,3,none⟩) (Kd.R_far (p:=⟨gb128,2,none⟩) (Kd.R_far (p:=⟨gb128,1,none⟩) (Kd.R_far (p:=⟨gb128,0,none⟩) (Kd.R_types HO156.out BK128.out zq26) (fun _ hk=>hk.2) (.slice Ao14 t129.length co14)) (fun _ hk=>hk.2) (.slice Ao18 t132.length co18)) (fun _ hk=>hk.2) (.int .i64 t135)) (fun _ hk=>hk.2) (.slice Ao28 y150.length co28)) (fun _ hk=>hk.2) (.slice Ao20 t139.length co20)) (fun _ hk=>hk.2) (.slice Ao33 y154.length co33)) (fun _ hk=>⟨hk.1.2.2,hk.1.2.1⟩),by repeat (first|(with_reducible first|exact HB.out|apply zg|apply zd|apply zk|refine zn ?_ GE127.out|refine zn ?_ GE128.out|refine zn ?_ GE145.out)|exact HB.out)⟩
     ·rw [if_neg c7] at H
      exact absurd H zq52
    ·rw [if_neg c6] at H
     exact absurd H zq52
   ·rw [if_neg c5] at H
    exact absurd H zq52
  ·rw [if_neg c4] at H
   exact absurd H zq52
 ·rw [if_neg c3] at H
  have c3b0:decide (0<(l0_3.length:Int))=false:=decide_eq_false c3
  have c3b1:decide (0<l0_3.length)=false:=decide_eq_false zq11
  clear c3
  by_cases c43:a0_2≥(l0_0.length:Int)
  ·rw [if_pos c43] at H
   have c43b0:decide ((l0_0.length:Int)≤a0_2)=true:=decide_eq_true c43
   clear c43
   simp only [Option.some.injEq,Prod.mk.injEq] at H
   obtain ⟨rfl,rfl,rfl,rfl,rfl,rfl,rfl⟩:=H
   go_enter Try.func10,Try.ntmps10
   go_wp2_with (first|((with_reducible refine zm (N:=1) rfl ?_);refine zq ?hg (N:=1) ?hd (cs:= #[.slice A0_0 l0_0.length c0_0,.slice A0_1 l0_1.length c0_1,.int .i64 a0_2,.slice A0_3 l0_3.length c0_3,.slice A0_4 l0_4.length c0_4,.slice A0_5 l0_5.length c0_5]) (t:=34) ?hr ?_;(case hd=>rfl);(case hg=>rfl);(case hr=>first|(go_simp;done)|(go_simp;rfl));intro gb127 hg w44 hbox hb;have n0_:=zz (ze zq2 hb);have n1_:=zz (hbox);have n2_:=zz ((by rw [hg];exact (zc zq2):w.heap.size≤gb127));have n3_:=zz ((by rw [hg];exact (zc zq2):w.heap.size≤gb127));clear HB;have HB:=n0_;have BK127:=n1_;have GW127:=n2_;have GE127:=n3_;clear n0_ n1_ n2_ n3_;clear hb hbox hg)|((with_reducible refine zm (N:=2) rfl ?_);refine zq ?hg (N:=2) ?hd (cs:= #[.slice none 0 0,.slice none 0 0,.int .i64 0,.slice none 0 0,.slice none 0 0,.slice none 0 0]) (t:=34) ?hr ?_;(case hd=>rfl);(case hg=>rfl);(case hr=>first|(go_simp;done)|(go_simp;rfl));intro gb128 hg w45 hbox hb;have n0_:=zz (zi (g:=gb127) (o:= .cells #[.slice A0_0 l0_0.length c0_0,.slice A0_1 l0_1.length c0_1,.int .i64 a0_2,.slice A0_3 l0_3.length c0_3,.slice A0_4 l0_4.length c0_4,.slice A0_5 l0_5.length c0_5] 34 (0,0)) (zq0 BK127.out) hb);have n1_:=zz (ze (zq3 GE127.out) hb);have n2_:=zz (hbox);have n3_:=zz ((by rw [hg];exact (zc (zq3 GE127.out)):w.heap.size≤gb128));have n4_:=zz ((by rw [hg];exact (zc (zq3 GE127.out)):w.heap.size≤gb128));have n5_:=zz ((by rw [hg];exact Nat.ne_of_lt (zu (g:=gb127) (o:= .cells #[.slice A0_0 l0_0.length c0_0,.slice A0_1 l0_1.length c0_1,.int .i64 a0_2,.slice A0_3 l0_3.length c0_3,.slice A0_4 l0_4.length c0_4,.slice A0_5 l0_5.length c0_5] 34 (0,0)) (zq0 BK127.out)):gb127≠gb128));have n6_:=zz ((by rw [hg];exact Nat.ne_of_gt (zu (g:=gb127) (o:= .cells #[.slice A0_0 l0_0.length c0_0,.slice A0_1 l0_1.length c0_1,.int .i64 a0_2,.slice A0_3 l0_3.length c0_3,.slice A0_4 l0_4.length c0_4,.slice A0_5 l0_5.length c0_5] 34 (0,0)) (zq0 BK127.out)):gb128≠gb127));clear BK127;clear HB;have BK127:=n0_;have HB:=n1_;have BK128:=n2_;have GW128:=n3_;have GE128:=n4_;have NB127_128:=n5_;have NB128_127:=n6_;clear n0_ n1_ n2_ n3_ n4_ n5_ n6_;clear hb hbox hg;have hnb46:=NB127_128.out;have hnc46:=NB128_127.out;have hcz47_0:w45.cell? ⟨gb127,0,none⟩=some (.slice A0_0 l0_0.length c0_0):=(zb BK127.out 0).trans rfl;have hcz47_1:w45.cell? ⟨gb127,1,none⟩=some (.slice A0_1 l0_1.length c0_1):=(zb BK127.out 1).trans rfl;have hcz47_2:w45.cell? ⟨gb127,2,none⟩=some (.int .i64 a0_2):=(zb BK127.out 2).trans rfl;have hcz47_3:w45.cell? ⟨gb127,3,none⟩=some (.slice A0_3 l0_3.length c0_3):=(zb BK127.out 3).trans rfl;have hcz47_4:w45.cell? ⟨gb127,4,none⟩=some (.slice A0_4 l0_4.length c0_4):=(zb BK127.out 4).trans rfl;have hcz47_5:w45.cell? ⟨gb127,5,none⟩=some (.slice A0_5 l0_5.length c0_5):=(zb BK127.out 5).trans rfl;have hfz47_0:=za BK127.out 0;have hfz47_1:=za BK127.out 1;have hfz47_2:=za BK127.out 2;have hfz47_3:=za BK127.out 3;have hfz47_4:=za BK127.out 4;have hfz47_5:=za BK127.out 5)|((with_reducible refine zo (f:=47) rfl ?_);refine zw (some 6) rfl rfl Try.func47 zq15 rfl #[.agg #[.slice A0_0 l0_0.length c0_0,.slice A0_1 l0_1.length c0_1,.int .i64 a0_2,.slice A0_3 l0_3.length c0_3,.slice A0_4 l0_4.length c0_4,.slice A0_5 l0_5.length c0_5]] rfl zq4 ?_;(with_reducible refine (spec_l08Copy.calls _ _ l0_0 _ _ l0_1 a0_2 _ _ l0_3 _ _ l0_4 _ _ l0_5 t129 t132 t135 t136 t139 t142 _ ?side1 ?side2 ?side3 ?side4 ?side5 ?side6 ?side7 ?side8 ?side9 ?side10 A2.out).mono ?_);(case side1=>repeat (first|exact (Kd.C_below HR0_0.out HB.out)|(with_reducible refine Kd.C_alloc ?_ _)|(with_reducible refine Kd.C_drewN ?_ _)|(with_reducible refine Kd.C_drew ?_)));(case side2=>exact HC0_0.out);(case side3=>repeat (first|exact (Kd.C_below HR0_1.out HB.out)|(with_reducible refine Kd.C_alloc ?_ _)|(with_reducible refine Kd.C_drewN ?_ _)|(with_reducible refine Kd.C_drew ?_)));(case side4=>exact HC0_1.out);(case side5=>repeat (first|exact (Kd.C_below HR0_3.out HB.out)|(with_reducible refine Kd.C_alloc ?_ _)|(with_reducible refine Kd.C_drewN ?_ _)|(with_reducible refine Kd.C_drew ?_)));(case side6=>exact HC0_3.out);(case side7=>repeat (first|exact (Kd.C_below HR0_4.out HB.out)|(with_reducible refine Kd.C_alloc ?_ _)|(with_reducible refine Kd.C_drewN ?_ _)|(with_reducible refine Kd.C_drew ?_)));(case side8=>exact HC0_4.out);(case side9=>repeat (first|exact (Kd.C_below HR0_5.out HB.out)|(with_reducible refine Kd.C_alloc ?_ _)|(with_reducible refine Kd.C_drewN ?_ _)|(with_reducible refine Kd.C_drew ?_)));(case side10=>exact HC0_5.out);rintro e w48 ⟨v130,v133,v137,v140,v143,rfl,ho0,ho1,ho2,ho3,ho4,hb⟩;refine ⟨_,rfl,?_⟩;(first|have rs_v130:=zp (P:=Try.prog) ho0|have rs_v130:=zp (P:=Try.prog) (Kd.S_R ho0)|skip);(first|have rs_v133:=zp (P:=Try.prog) ho1|have rs_v133:=zp (P:=Try.prog) (Kd.S_R ho1)|skip);(first|have rs_v137:=zp (P:=Try.prog) ho2|have rs_v137:=zp (P:=Try.prog) (Kd.S_R ho2)|skip);(first|have rs_v140:=zp (P:=Try.prog) ho3|have rs_v140:=zp (P:=Try.prog) (Kd.S_R ho3)|skip);(first|have rs_v143:=zp (P:=Try.prog) ho4|have rs_v143:=zp (P:=Try.prog) (Kd.S_R ho4)|skip);have n0_:=zz (Kd.R_lower ho0 (zc (zq1 GE127.out GE128.out)));have n1_:=zz (Kd.R_lower ho1 (zc (zq1 GE127.out GE128.out)));have n2_:=zz (Kd.R_lower ho2 (zc (zq1 GE127.out GE128.out)));have n3_:=zz (Kd.R_lower ho3 (zc (zq1 GE127.out GE128.out)));have n4_:=zz (Kd.R_lower ho4 (zc (zq1 GE127.out GE128.out)));have n5_:=zz (zi (g:=gb127) (o:= .cells #[.slice A0_0 l0_0.length c0_0,.slice A0_1 l0_1.length c0_1,.int .i64 a0_2,.slice A0_3 l0_3.length c0_3,.slice A0_4 l0_4.length c0_4,.slice A0_5 l0_5.length c0_5] 34 (0,0)) (zq0 BK127.out) hb);have n6_:=zz (zi (g:=gb128) (o:= .cells #[.slice none 0 0,.slice none 0 0,.int .i64 0,.slice none 0 0,.slice none 0 0,.slice none 0 0] 34 (0,0)) (zq0 BK128.out) hb);have n7_:=zz (ze (zq1 GE127.out GE128.out) hb);clear BK127;clear BK128;clear HB;have HO131:=n0_;have HO134:=n1_;have HO138:=n2_;have HO141:=n3_;have HO144:=n4_;have BK127:=n5_;have BK128:=n6_;have HB:=n7_;clear n0_ n1_ n2_ n3_ n4_ n5_ n6_ n7_;(try clear hb);(try clear hb2);(try clear hk);(try clear hi);(try clear ho0);(try clear ho1);(try clear ho2);(try clear ho3);(try clear ho4))|((with_reducible refine zm (N:=4) rfl ?_);refine zq ?hg (N:=4) ?hd (cs:= #[.slice none 0 0,.slice none 0 0,.int .i64 0,.slice none 0 0,.slice none 0 0,.slice none 0 0]) (t:=34) ?hr ?_;(case hd=>rfl);(case hg=>rfl);(case hr=>first|(go_simp;done)|(go_simp;rfl));intro gb145 hg w49 hbox hb;have n0_:=zz (Kd.R_below (zq5 HO131.out) hb);have n1_:=zz (Kd.R_below (zq5 HO134.out) hb);have n2_:=zz (Kd.R_below (zq5 HO138.out) hb);have n3_:=zz (Kd.R_below (zq5 HO141.out) hb);have n4_:=zz (Kd.R_below (zq5 HO144.out) hb);have n5_:=zz (zi (g:=gb127) (o:= .cells #[.slice A0_0 l0_0.length c0_0,.slice A0_1 l0_1.length c0_1,.int .i64 a0_2,.slice A0_3 l0_3.length c0_3,.slice A0_4 l0_4.length c0_4,.slice A0_5 l0_5.length c0_5] 34 (0,0)) (zq0 BK127.out) hb);have n6_:=zz (zi (g:=gb128) (o:= .cells #[.slice none 0 0,.slice none 0 0,.int .i64 0,.slice none 0 0,.slice none 0 0,.slice none 0 0] 34 (0,0)) (zq0 BK128.out) hb);have n7_:=zz (ze (zq1 GE127.out GE128.out) hb);have n8_:=zz (hbox);have n9_:=zz ((by rw [hg];exact (zc (zq1 GE127.out GE128.out)):w.heap.size≤gb145));have n10_:=zz ((by rw [hg];exact (zc (zq1 GE127.out GE128.out)):w.heap.size≤gb145));have n11_:=zz ((by rw [hg];exact Nat.ne_of_lt (zu (g:=gb127) (o:= .cells #[.slice A0_0 l0_0.length c0_0,.slice A0_1 l0_1.length c0_1,.int .i64 a0_2,.slice A0_3 l0_3.length c0_3,.slice A0_4 l0_4.length c0_4,.slice A0_5 l0_5.length c0_5] 34 (0,0)) (zq0 BK127.out)):gb127≠gb145));have n12_:=zz ((by rw [hg];exact Nat.ne_of_gt (zu (g:=gb127) (o:= .cells #[.slice A0_0 l0_0.length c0_0,.slice A0_1 l0_1.length c0_1,.int .i64 a0_2,.slice A0_3 l0_3.length c0_3,.slice A0_4 l0_4.length c0_4,.slice A0_5 l0_5.length c0_5] 34 (0,0)) (zq0 BK127.out)):gb145≠gb127));have n13_:=zz ((by rw [hg];exact Nat.ne_of_lt (zu (g:=gb128) (o:= .cells #[.slice none 0 0,.slice none 0 0,.int .i64 0,.slice none 0 0,.slice none 0 0,.slice none 0 0] 34 (0,0)) (zq0 BK128.out)):gb128≠gb145));have n14_:=zz ((by rw [hg];exact Nat.ne_of_gt (zu (g:=gb128) (o:= .cells #[.slice none 0 0,.slice none 0 0,.int .i64 0,.slice none 0 0,.slice none 0 0,.slice none 0 0] 34 (0,0)) (zq0 BK128.out)):gb145≠gb128));clear HO131;clear HO134;clear HO138;clear HO141;clear HO144;clear BK127;clear BK128;clear HB;have HO131:=n0_;have HO134:=n1_;have HO138:=n2_;have HO141:=n3_;have HO144:=n4_;have BK127:=n5_;have BK128:=n6_;have HB:=n7_;have BK145:=n8_;have GW145:=n9_;have GE145:=n10_;have NB127_145:=n11_;have NB145_127:=n12_;have NB128_145:=n13_;have NB145_128:=n14_;clear n0_ n1_ n2_ n3_ n4_ n5_ n6_ n7_ n8_ n9_ n10_ n11_ n12_ n13_ n14_;clear hb hbox hg;obtain ⟨Ao50,co50,eo50⟩:=Kd.R_slice HO131.out;subst eo50;have hnb51:=NB145_127.out;have hnc51:=NB127_145.out;have hnb52:=NB145_128.out;have hnc52:=NB128_145.out;have hcz53_0:w49.cell? ⟨gb145,0,none⟩=some (.slice none 0 0):=(zb BK145.out 0).trans rfl;have hcz53_1:w49.cell? ⟨gb145,1,none⟩=some (.slice none 0 0):=(zb BK145.out 1).trans rfl;have hcz53_2:w49.cell? ⟨gb145,2,none⟩=some (.int .i64 0):=(zb BK145.out 2).trans rfl;have hcz53_3:w49.cell? ⟨gb145,3,none⟩=some (.slice none 0 0):=(zb BK145.out 3).trans rfl;have hcz53_4:w49.cell? ⟨gb145,4,none⟩=some (.slice none 0 0):=(zb BK145.out 4).trans rfl;have hcz53_5:w49.cell? ⟨gb145,5,none⟩=some (.slice none 0 0):=(zb BK145.out 5).trans rfl;have hfz53_0:=za BK145.out 0;have hfz53_1:=za BK145.out 1;have hfz53_2:=za BK145.out 2;have hfz53_3:=za BK145.out 3;have hfz53_4:=za BK145.out 4;have hfz53_5:=za BK145.out 5;obtain ⟨Ao54,co54,eo54⟩:=Kd.R_slice HO134.out;subst eo54;obtain ⟨Ao55,co55,eo55⟩:=Kd.R_slice HO138.out;subst eo55;obtain ⟨Ao56,co56,eo56⟩:=Kd.R_slice HO141.out;subst eo56;obtain ⟨Ao57,co57,eo57⟩:=Kd.R_slice HO144.out;subst eo57;have hcz58_0:w49.cell? ⟨gb127,0,none⟩=some (.slice A0_0 l0_0.length c0_0):=(zb BK127.out 0).trans rfl;have hcz58_1:w49.cell? ⟨gb127,1,none⟩=some (.slice A0_1 l0_1.length c0_1):=(zb BK127.out 1).trans rfl;have hcz58_2:w49.cell? ⟨gb127,2,none⟩=some (.int .i64 a0_2):=(zb BK127.out 2).trans rfl;have hcz58_3:w49.cell? ⟨gb127,3,none⟩=some (.slice A0_3 l0_3.length c0_3):=(zb BK127.out 3).trans rfl;have hcz58_4:w49.cell? ⟨gb127,4,none⟩=some (.slice A0_4 l0_4.length c0_4):=(zb BK127.out 4).trans rfl;have hcz58_5:w49.cell? ⟨gb127,5,none⟩=some (.slice A0_5 l0_5.length c0_5):=(zb BK127.out 5).trans rfl;have hfz58_0:=za BK127.out 0;have hfz58_1:=za BK127.out 1;have hfz58_2:=za BK127.out 2;have hfz58_3:=za BK127.out 3;have hfz58_4:=za BK127.out 4;have hfz58_5:=za BK127.out 5;have hcz59_0:w49.cell? ⟨gb128,0,none⟩=some (.slice none 0 0):=(zb BK128.out 0).trans rfl;have hcz59_1:w49.cell? ⟨gb128,1,none⟩=some (.slice none 0 0):=(zb BK128.out 1).trans rfl;have hcz59_2:w49.cell? ⟨gb128,2,none⟩=some (.int .i64 0):=(zb BK128.out 2).trans rfl;have hcz59_3:w49.cell? ⟨gb128,3,none⟩=some (.slice none 0 0):=(zb BK128.out 3).trans rfl;have hcz59_4:w49.cell? ⟨gb128,4,none⟩=some (.slice none 0 0):=(zb BK128.out 4).trans rfl;have hcz59_5:w49.cell? ⟨gb128,5,none⟩=some (.slice none 0 0):=(zb BK128.out 5).trans rfl;have hfz59_0:=za BK128.out 0;have hfz59_1:=za BK128.out 1;have hfz59_2:=za BK128.out 2;have hfz59_3:=za BK128.out 3;have hfz59_4:=za BK128.out 4;have hfz59_5:=za BK128.out 5))
   refine bodyPost_ret (zN rfl _ _ gb128 34 #[.slice Ao50 t129.length co50,.slice Ao54 t132.length co54,.int .i64 t135,.slice Ao55 t136.length co55,.slice Ao56 t139.length co56,.slice Ao57 t142.length co57] (0,0) _ rfl (by (with_reducible repeat (first|refine zf ?_ _|refine zj ?_|refine zh ?_ _));refine zr (cs:= #[.slice Ao50 t129.length co50,.slice Ao54 t132.length co54,.int .i64 t135,.slice Ao55 t136.length co55,.slice Ao56 t139.length co56,.slice none 0 0]) ?_ 5 _ rfl;(with_reducible repeat (first|refine zf ?_ _|refine zj ?_|refine zh ?_ _));refine zr (cs:= #[.slice Ao50 t129.length co50,.slice Ao54 t132.length co54,.int .i64 t135,.slice Ao55 t136.length co55,.slice none 0 0,.slice none 0 0]) ?_ 4 _ rfl;(with_reducible repeat (first|refine zf ?_ _|refine zj ?_|refine zh ?_ _));refine zr (cs:= #[.slice Ao50 t129.length co50,.slice Ao54 t132.length co54,.int .i64 t135,.slice none 0 0,.slice none 0 0,.slice none 0 0]) ?_ 3 _ rfl;(with_reducible repeat (first|refine zf ?_ _|refine zj ?_|refine zh ?_ _));refine zr (cs:= #[.slice Ao50 t129.length co50,.slice Ao54 t132.length co54,.int .i64 0,.slice none 0 0,.slice none 0 0,.slice none 0 0]) ?_ 2 _ rfl;(with_reducible repeat (first|refine zf ?_ _|refine zj ?_|refine zh ?_ _));refine zr (cs:= #[.slice Ao50 t129.length co50,.slice none 0 0,.int .i64 0,.slice none 0 0,.slice none 0 0,.slice none 0 0]) ?_ 1 _ rfl;(with_reducible repeat (first|refine zf ?_ _|refine zj ?_|refine zh ?_ _));refine zr (cs:= #[.slice none 0 0,.slice none 0 0,.int .i64 0,.slice none 0 0,.slice none 0 0,.slice none 0 0]) ?_ 0 _ rfl;(with_reducible repeat (first|refine zf ?_ _|refine zj ?_|refine zh ?_ _));refine zD ?_ NB128_145.out _;(with_reducible repeat (first|refine zf ?_ _|refine zj ?_|refine zh ?_ _));refine zD ?_ NB128_145.out _;(with_reducible repeat (first|refine zf ?_ _|refine zj ?_|refine zh ?_ _));refine zD ?_ NB128_145.out _;(with_reducible repeat (first|refine zf ?_ _|refine zj ?_|refine zh ?_ _));refine zD ?_ NB128_145.out _;(with_reducible repeat (first|refine zf ?_ _|refine zj ?_|refine zh ?_ _));refine zD ?_ NB128_145.out _;(with_reducible repeat (first|refine zf ?_ _|refine zj ?_|refine zh ?_ _));refine zD ?_ NB128_145.out _;(with_reducible repeat (first|refine zf ?_ _|refine zj ?_|refine zh ?_ _));exact BK128.out) Try.underlying34 rfl zq15) rfl ?_
   exact ⟨_,_,_,_,_,zq10,zq30 HO131.out BK145.out BK128.out,zq30 HO134.out BK145.out BK128.out,zq23 HO138.out BK145.out BK128.out,zq23 HO141.out BK145.out BK128.out,zq23 HO144.out BK145.out BK128.out,by repeat (first|(with_reducible first|exact HB.out|apply zg|apply zd|apply zk|refine zn ?_ GE127.out|refine zn ?_ GE128.out|refine zn ?_ GE145.out)|exact HB.out)⟩
  ·rw [if_neg c43] at H
   have c43b0:decide ((l0_0.length:Int)≤a0_2)=false:=decide_eq_false c43
   clear c43
   by_cases c60:t142.length<17592186044416
   ·rw [if_pos c60] at H
    have LMc60:=zz c60
    clear c60
    obtain ⟨y158,hy158⟩:∃y_:List Int,y_=(t142++[a0_2]):=⟨_,rfl⟩
    replace H:(some (t129,t132,wrap64 (a0_2+1),t136,t139,y158,a0_2))=some (r1,r2,r3,r4,r5,r6,r7):=zq8 hy158
    have Ny158:=zz hy158
    clear hy158
    simp only [Option.some.injEq,Prod.mk.injEq] at H
    obtain ⟨rfl,rfl,rfl,rfl,rfl,rfl,rfl⟩:=H
    go_enter Try.func10,Try.ntmps10
    try go_wp2_with (first|((with_reducible refine zm (N:=1) rfl ?_);refine zq ?hg (N:=1) ?hd (cs:= #[.slice A0_0 l0_0.length c0_0,.slice A0_1 l0_1.length c0_1,.int .i64 a0_2,.slice A0_3 l0_3.length c0_3,.slice A0_4 l0_4.length c0_4,.slice A0_5 l0_5.length c0_5]) (t:=34) ?hr ?_;(case hd=>rfl);(case hg=>rfl);(case hr=>first|(go_simp;done)|(go_simp;rfl));intro gb127 hg w61 hbox hb;have n0_:=zz (ze zq2 hb);have n1_:=zz (hbox);have n2_:=zz ((by rw [hg];exact (zc zq2):w.heap.size≤gb127));have n3_:=zz ((by rw [hg];exact (zc zq2):w.heap.size≤gb127));clear HB;have HB:=n0_;have BK127:=n1_;have GW127:=n2_;have GE127:=n3_;clear n0_ n1_ n2_ n3_;clear hb hbox hg)|((with_reducible refine zm (N:=2) rfl ?_);refine zq ?hg (N:=2) ?hd (cs:= #[.slice none 0 0,.slice none 0 0,.int .i64 0,.slice none 0 0,.slice none 0 0,.slice none 0 0]) (t:=34) ?hr ?_;(case hd=>rfl);(case hg=>rfl);(case hr=>first|(go_simp;done)|(go_simp;rfl));intro gb128 hg w62 hbox hb;have n0_:=zz (zi (g:=gb127) (o:= .cells #[.slice A0_0 l0_0.length c0_0,.slice A0_1 l0_1.length c0_1,.int .i64 a0_2,.slice A0_3 l0_3.length c0_3,.slice A0_4 l0_4.length c0_4,.slice A0_5 l0_5.length c0_5] 34 (0,0)) (zq0 BK127.out) hb);have n1_:=zz (ze (zq3 GE127.out) hb);have n2_:=zz (hbox);have n3_:=zz ((by rw [hg];exact (zc (zq3 GE127.out)):w.heap.size≤gb128));have n4_:=zz ((by rw [hg];exact (zc (zq3 GE127.out)):w.heap.size≤gb128));have n5_:=zz ((by rw [hg];exact Nat.ne_of_lt (zu (g:=gb127) (o:= .cells #[.slice A0_0 l0_0.length c0_0,.slice A0_1 l0_1.length c0_1,.int .i64 a0_2,.slice A0_3 l0_3.length c0_3,.slice A0_4 l0_4.length c0_4,.slice A0_5 l0_5.length c0_5] 34 (0,0)) (zq0 BK127.out)):gb127≠gb128));have n6_:=zz ((by rw [hg];exact Nat.ne_of_gt (zu (g:=gb127) (o:= .cells #[.slice A0_0 l0_0.length c0_0,.slice A0_1 l0_1.length c0_1,.int .i64 a0_2,.slice A0_3 l0_3.length c0_3,.slice A0_4 l0_4.length c0_4,.slice A0_5 l0_5.length c0_5] 34 (0,0)) (zq0 BK127.out)):gb128≠gb127));clear BK127;clear HB;have BK127:=n0_;have HB:=n1_;have BK128:=n2_;have GW128:=n3_;have GE128:=n4_;have NB127_128:=n5_;have NB128_127:=n6_;clear n0_ n1_ n2_ n3_ n4_ n5_ n6_;clear hb hbox hg;have hnb63:=NB127_128.out;have hnc63:=NB128_127.out;have hcz64_0:w62.cell? ⟨gb127,0,none⟩=some (.slice A0_0 l0_0.length c0_0):=(zb BK127.out 0).trans rfl;have hcz64_1:w62.cell? ⟨gb127,1,none⟩=some (.slice A0_1 l0_1.length c0_1):=(zb BK127.out 1).trans rfl;have hcz64_2:w62.cell? ⟨gb127,2,none⟩=some (.int .i64 a0_2):=(zb BK127.out 2).trans rfl;have hcz64_3:w62.cell? ⟨gb127,3,none⟩=some (.slice A0_3 l0_3.length c0_3):=(zb BK127.out 3).trans rfl;have hcz64_4:w62.cell? ⟨gb127,4,none⟩=some (.slice A0_4 l0_4.length c0_4):=(zb BK127.out 4).trans rfl;have hcz64_5:w62.cell? ⟨gb127,5,none⟩=some (.slice A0_5 l0_5.length c0_5):=(zb BK127.out 5).trans rfl;have hfz64_0:=za BK127.out 0;have hfz64_1:=za BK127.out 1;have hfz64_2:=za BK127.out 2;have hfz64_3:=za BK127.out 3;have hfz64_4:=za BK127.out 4;have hfz64_5:=za BK127.out 5)|((with_reducible refine zo (f:=47) rfl ?_);refine zw (some 6) rfl rfl Try.func47 zq15 rfl #[.agg #[.slice A0_0 l0_0.length c0_0,.slice A0_1 l0_1.length c0_1,.int .i64 a0_2,.slice A0_3 l0_3.length c0_3,.slice A0_4 l0_4.length c0_4,.slice A0_5 l0_5.length c0_5]] rfl zq4 ?_;(with_reducible refine (spec_l08Copy.calls _ _ l0_0 _ _ l0_1 a0_2 _ _ l0_3 _ _ l0_4 _ _ l0_5 t129 t132 t135 t136 t139 t142 _ ?side1 ?side2 ?side3 ?side4 ?side5 ?side6 ?side7 ?side8 ?side9 ?side10 A2.out).mono ?_);(case side1=>repeat (first|exact (Kd.C_below HR0_0.out HB.out)|(with_reducible refine Kd.C_alloc ?_ _)|(with_reducible refine Kd.C_drewN ?_ _)|(with_reducible refine Kd.C_drew ?_)));(case side2=>exact HC0_0.out);(case side3=>repeat (first|exact (Kd.C_below HR0_1.out HB.out)|(with_reducible refine Kd.C_alloc ?_ _)|(with_reducible refine Kd.C_drewN ?_ _)|(with_reducible refine Kd.C_drew ?_)));(case side4=>exact HC0_1.out);(case side5=>repeat (first|exact (Kd.C_below HR0_3.out HB.out)|(with_reducible refine Kd.C_alloc ?_ _)|(with_reducible refine Kd.C_drewN ?_ _)|(with_reducible refine Kd.C_drew ?_)));(case side6=>exact HC0_3.out);(case side7=>repeat (first|exact (Kd.C_below HR0_4.out HB.out)|(with_reducible refine Kd.C_alloc ?_ _)|(with_reducible refine Kd.C_drewN ?_ _)|(with_reducible refine Kd.C_drew ?_)));(case side8=>exact HC0_4.out);(case side9=>repeat (first|exact (Kd.C_below HR0_5.out HB.out)|(with_reducible refine Kd.C_alloc ?_ _)|(with_reducible refine Kd.C_drewN ?_ _)|(with_reducible refine Kd.C_drew ?_)));(case side10=>exact HC0_5.out);rintro e w65 ⟨v130,v133,v137,v140,v143,rfl,ho0,ho1,ho2,ho3,ho4,hb⟩;refine ⟨_,rfl,?_⟩;(first|have rs_v130:=zp (P:=Try.prog) ho0|have rs_v130:=zp (P:=Try.prog) (Kd.S_R ho0)|skip);(first|have rs_v133:=zp (P:=Try.prog) ho1|have rs_v133:=zp (P:=Try.prog) (Kd.S_R ho1)|skip);(first|have rs_v137:=zp (P:=Try.prog) ho2|have rs_v137:=zp (P:=Try.prog) (Kd.S_R ho2)|skip);(first|have rs_v140:=zp (P:=Try.prog) ho3|have rs_v140:=zp (P:=Try.prog) (Kd.S_R ho3)|skip);(first|have rs_v143:=zp (P:=Try.prog) ho4|have rs_v143:=zp (P:=Try.prog) (Kd.S_R ho4)|skip);have n0_:=zz (Kd.R_lower ho0 (zc (zq1 GE127.out GE128.out)));have n1_:=zz (Kd.R_lower ho1 (zc (zq1 GE127.out GE128.out)));have n2_:=zz (Kd.R_lower ho2 (zc (zq1 GE127.out GE128.out)));have n3_:=zz (Kd.R_lower ho3 (zc (zq1 GE127.out GE128.out)));have n4_:=zz (Kd.R_lower ho4 (zc (zq1 GE127.out GE128.out)));have n5_:=zz (zi (g:=gb127) (o:= .cells #[.slice A0_0 l0_0.length c0_0,.slice A0_1 l0_1.length c0_1,.int .i64 a0_2,.slice A0_3 l0_3.length c0_3,.slice A0_4 l0_4.length c0_4,.slice A0_5 l0_5.length c0_5] 34 (0,0)) (zq0 BK127.out) hb);have n6_:=zz (zi (g:=gb128) (o:= .cells #[.slice none 0 0,.slice none 0 0,.int .i64 0,.slice none 0 0,.slice none 0 0,.slice none 0 0] 34 (0,0)) (zq0 BK128.out) hb);have n7_:=zz (ze (zq1 GE127.out GE128.out) hb);clear BK127;clear BK128;clear HB;have HO131:=n0_;have HO134:=n1_;have HO138:=n2_;have HO141:=n3_;have HO144:=n4_;have BK127:=n5_;have BK128:=n6_;have HB:=n7_;clear n0_ n1_ n2_ n3_ n4_ n5_ n6_ n7_;(try clear hb);(try clear hb2);(try clear hk);(try clear hi);(try clear ho0);(try clear ho1);(try clear ho2);(try clear ho3);(try clear ho4))|((with_reducible refine zm (N:=4) rfl ?_);refine zq ?hg (N:=4) ?hd (cs:= #[.slice none 0 0,.slice none 0 0,.int .i64 0,.slice none 0 0,.slice none 0 0,.slice none 0 0]) (t:=34) ?hr ?_;(case hd=>rfl);(case hg=>rfl);(case hr=>first|(go_simp;done)|(go_simp;rfl));intro gb145 hg w66 hbox hb;have n0_:=zz (Kd.R_below (zq5 HO131.out) hb);have n1_:=zz (Kd.R_below (zq5 HO134.out) hb);have n2_:=zz (Kd.R_below (zq5 HO138.out) hb);have n3_:=zz (Kd.R_below (zq5 HO141.out) hb);have n4_:=zz (Kd.R_below (zq5 HO144.out) hb);have n5_:=zz (zi (g:=gb127) (o:= .cells #[.slice A0_0 l0_0.length c0_0,.slice A0_1 l0_1.length c0_1,.int .i64 a0_2,.slice A0_3 l0_3.length c0_3,.slice A0_4 l0_4.length c0_4,.slice A0_5 l0_5.length c0_5] 34 (0,0)) (zq0 BK127.out) hb);have n6_:=zz (zi (g:=gb128) (o:= .cells #[.slice none 0 0,.slice none 0 0,.int .i64 0,.slice none 0 0,.slice none 0 0,.slice none 0 0] 34 (0,0)) (zq0 BK128.out) hb);have n7_:=zz (ze (zq1 GE127.out GE128.out) hb);have n8_:=zz (hbox);have n9_:=zz ((by rw [hg];exact (zc (zq1 GE127.out GE128.out)):w.heap.size≤gb145));have n10_:=zz ((by rw [hg];exact (zc (zq1 GE127.out GE128.out)):w.heap.size≤gb145));have n11_:=zz ((by rw [hg];exact Nat.ne_of_lt (zu (g:=gb127) (o:= .cells #[.slice A0_0 l0_0.length c0_0,.slice A0_1 l0_1.length c0_1,.int .i64 a0_2,.slice A0_3 l0_3.length c0_3,.slice A0_4 l0_4.length c0_4,.slice A0_5 l0_5.length c0_5] 34 (0,0)) (zq0 BK127.out)):gb127≠gb145));have n12_:=zz ((by rw [hg];exact Nat.ne_of_gt (zu (g:=gb127) (o:= .cells #[.slice A0_0 l0_0.length c0_0,.slice A0_1 l0_1.length c0_1,.int .i64 a0_2,.slice A0_3 l0_3.length c0_3,.slice A0_4 l0_4.length c0_4,.slice A0_5 l0_5.length c0_5] 34 (0,0)) (zq0 BK127.out)):gb145≠gb127));have n13_:=zz ((by rw [hg];exact Nat.ne_of_lt (zu (g:=gb128) (o:= .cells #[.slice none 0 0,.slice none 0 0,.int .i64 0,.slice none 0 0,.slice none 0 0,.slice none 0 0] 34 (0,0)) (zq0 BK128.out)):gb128≠gb145));have n14_:=zz ((by rw [hg];exact Nat.ne_of_gt (zu (g:=gb128) (o:= .cells #[.slice none 0 0,.slice none 0 0,.int .i64 0,.slice none 0 0,.slice none 0 0,.slice none 0 0] 34 (0,0)) (zq0 BK128.out)):gb145≠gb128));clear HO131;clear HO134;clear HO138;clear HO141;clear HO144;clear BK127;clear BK128;clear HB;have HO131:=n0_;have HO134:=n1_;have HO138:=n2_;have HO141:=n3_;have HO144:=n4_;have BK127:=n5_;have BK128:=n6_;have HB:=n7_;have BK145:=n8_;have GW145:=n9_;have GE145:=n10_;have NB127_145:=n11_;have NB145_127:=n12_;have NB128_145:=n13_;have NB145_128:=n14_;clear n0_ n1_ n2_ n3_ n4_ n5_ n6_ n7_ n8_ n9_ n10_ n11_ n12_ n13_ n14_;clear hb hbox hg;obtain ⟨Ao67,co67,eo67⟩:=Kd.R_slice HO131.out;subst eo67;have hnb68:=NB145_127.out;have hnc68:=NB127_145.out;have hnb69:=NB145_128.out;have hnc69:=NB128_145.out;have hcz70_0:w66.cell? ⟨gb145,0,none⟩=some (.slice none 0 0):=(zb BK145.out 0).trans rfl;have hcz70_1:w66.cell? ⟨gb145,1,none⟩=some (.slice none 0 0):=(zb BK145.out 1).trans rfl;have hcz70_2:w66.cell? ⟨gb145,2,none⟩=some (.int .i64 0):=(zb BK145.out 2).trans rfl;have hcz70_3:w66.cell? ⟨gb145,3,none⟩=some (.slice none 0 0):=(zb BK145.out 3).trans rfl;have hcz70_4:w66.cell? ⟨gb145,4,none⟩=some (.slice none 0 0):=(zb BK145.out 4).trans rfl;have hcz70_5:w66.cell? ⟨gb145,5,none⟩=some (.slice none 0 0):=(zb BK145.out 5).trans rfl;have hfz70_0:=za BK145.out 0;have hfz70_1:=za BK145.out 1;have hfz70_2:=za BK145.out 2;have hfz70_3:=za BK145.out 3;have hfz70_4:=za BK145.out 4;have hfz70_5:=za BK145.out 5;obtain ⟨Ao71,co71,eo71⟩:=Kd.R_slice HO134.out;subst eo71;obtain ⟨Ao72,co72,eo72⟩:=Kd.R_slice HO138.out;subst eo72;obtain ⟨Ao73,co73,eo73⟩:=Kd.R_slice HO141.out;subst eo73;obtain ⟨Ao74,co74,eo74⟩:=Kd.R_slice HO144.out;subst eo74;have hcz75_0:w66.cell? ⟨gb127,0,none⟩=some (.slice A0_0 l0_0.length c0_0):=(zb BK127.out 0).trans rfl;have hcz75_1:w66.cell? ⟨gb127,1,none⟩=some (.slice A0_1 l0_1.length c0_1):=(zb BK127.out 1).trans rfl;have hcz75_2:w66.cell? ⟨gb127,2,none⟩=some (.int .i64 a0_2):=(zb BK127.out 2).trans rfl;have hcz75_3:w66.cell? ⟨gb127,3,none⟩=some (.slice A0_3 l0_3.length c0_3):=(zb BK127.out 3).trans rfl;have hcz75_4:w66.cell? ⟨gb127,4,none⟩=some (.slice A0_4 l0_4.length c0_4):=(zb BK127.out 4).trans rfl;have hcz75_5:w66.cell? ⟨gb127,5,none⟩=some (.slice A0_5 l0_5.length c0_5):=(zb BK127.out 5).trans rfl;have hfz75_0:=za BK127.out 0;have hfz75_1:=za BK127.out 1;have hfz75_2:=za BK127.out 2;have hfz75_3:=za BK127.out 3;have hfz75_4:=za BK127.out 4;have hfz75_5:=za BK127.out 5)|((with_reducible refine zT (b:= .append) (xs:= #[.tmp 44,.tmp 47]) rfl ?_);at_builtin;refine Kd.R_append (Kd.int .i64) (w0:=w) w.heap.size rfl (.tmp 44) (.tmp 47) 26 3 (.int .i64 0) 8 rfl Try.underlying26 info3 rfl zq26 zq11 (.slice Ao74 t142.length co74) t142 a0_2 [.int .i64 a0_2] (fun k_=>some k_≠(.slice Ao72 t136.length co72:Value).ownBlock∧some k_≠(.slice Ao73 t139.length co73:Value).ownBlock) (fun _=>False) rfl (by first|(go_simp;done)|(go_simp;rfl)) ?aP (fun _ hk=>hk.elim) ?aF ?aO ?aB ?aS ?aL ?_;(case aP=>exact rfl);(case aB=>exact (zq6 GE127.out GE128.out GE145.out));(case aF=>exact (fun k_ hk=>⟨Kd.fresh' (Kd.R_lt (zq18 HO138.out BK145.out)) k_ hk,Kd.fresh' (Kd.R_lt (zq18 HO141.out BK145.out)) k_ hk⟩));(case aO=>exact (zq33 HO144.out BK145.out));(case aS=>exact (zc (zq6 GE127.out GE128.out GE145.out)));(case aL=>have:=LMc60.out;omega);intro v159 w76 ho hb hg hat;rw [←Ny158.out] at ho;have n0_:=zz (zE (g:=gb127) (o:= .cells #[.slice A0_0 l0_0.length c0_0,.slice A0_1 l0_1.length c0_1,.int .i64 a0_2,.slice A0_3 l0_3.length c0_3,.slice A0_4 l0_4.length c0_4,.slice A0_5 l0_5.length c0_5] 34 (0,0)) (zq20 NB127_145.out BK127.out) hg (Kd.R_ne HO144.out BK127.out zq26));have n1_:=zz (zE (g:=gb128) (o:= .cells #[.slice none 0 0,.slice none 0 0,.int .i64 0,.slice none 0 0,.slice none 0 0,.slice none 0 0] 34 (0,0)) (zq20 NB128_145.out BK128.out) hg (Kd.R_ne HO144.out BK128.out zq26));have n2_:=zz (Kd.R_over' (zq18 HO131.out BK145.out) (Kd.R_typed (zq18 HO144.out BK145.out)) zq26 hg);have n3_:=zz (Kd.R_over' (zq18 HO134.out BK145.out) (Kd.R_typed (zq18 HO144.out BK145.out)) zq26 hg);have n4_:=zz (Kd.R_after (ok:=(fun k_=>some k_≠(.slice Ao73 t139.length co73:Value).ownBlock)) (zq33 HO138.out BK145.out) hg hat);have n5_:=zz (Kd.R_after (ok:=(fun k_=>some k_≠(.slice Ao72 t136.length co72:Value).ownBlock)) (zq33 HO141.out BK145.out) hg hat);have n6_:=zz (zE (g:=gb145) (o:= .cells #[.slice Ao67 t129.length co67,.slice Ao71 t132.length co71,.int .i64 (wrap64 (a0_2+1)),.slice Ao72 t136.length co72,.slice Ao73 t139.length co73,.slice Ao74 t142.length co74] 34 (0,0)) (by (with_reducible repeat (first|refine zf ?_ _|refine zj ?_|refine zh ?_ _));refine zr (cs:= #[.slice Ao67 t129.length co67,.slice Ao71 t132.length co71,.int .i64 t135,.slice Ao72 t136.length co72,.slice Ao73 t139.length co73,.slice Ao74 t142.length co74]) ?_ 2 _ rfl;(with_reducible repeat (first|refine zf ?_ _|refine zj ?_|refine zh ?_ _));refine zr (cs:= #[.slice Ao67 t129.length co67,.slice Ao71 t132.length co71,.int .i64 t135,.slice Ao72 t136.length co72,.slice Ao73 t139.length co73,.slice none 0 0]) ?_ 5 _ rfl;(with_reducible repeat (first|refine zf ?_ _|refine zj ?_|refine zh ?_ _));refine zr (cs:= #[.slice Ao67 t129.length co67,.slice Ao71 t132.length co71,.int .i64 t135,.slice Ao72 t136.length co72,.slice none 0 0,.slice none 0 0]) ?_ 4 _ rfl;(with_reducible repeat (first|refine zf ?_ _|refine zj ?_|refine zh ?_ _));refine zr (cs:= #[.slice Ao67 t129.length co67,.slice Ao71 t132.length co71,.int .i64 t135,.slice none 0 0,.slice none 0 0,.slice none 0 0]) ?_ 3 _ rfl;(with_reducible repeat (first|refine zf ?_ _|refine zj ?_|refine zh ?_ _));refine zr (cs:= #[.slice Ao67 t129.length co67,.slice Ao71 t132.length co71,.int .i64 0,.slice none 0 0,.slice none 0 0,.slice none 0 0]) ?_ 2 _ rfl;(with_reducible repeat (first|refine zf ?_ _|refine zj ?_|refine zh ?_ _));refine zr (cs:= #[.slice Ao67 t129.length co67,.slice none 0 0,.int .i64 0,.slice none 0 0,.slice none 0 0,.slice none 0 0]) ?_ 1 _ rfl;(with_reducible repeat (first|refine zf ?_ _|refine zj ?_|refine zh ?_ _));refine zr (cs:= #[.slice none 0 0,.slice none 0 0,.int .i64 0,.slice none 0 0,.slice none 0 0,.slice none 0 0]) ?_ 0 _ rfl;(with_reducible repeat (first|refine zf ?_ _|refine zj ?_|refine zh ?_ _));exact BK145.out) hg (Kd.R_ne HO144.out BK145.out zq26));have n7_:=zz (hb);have n8_:=zz (ho);clear BK127;clear BK128;clear HO131;clear HO134;clear HO138;clear HO141;clear BK145;clear HB;clear HO144;have BK127:=n0_;have BK128:=n1_;have HO131:=n2_;have HO134:=n3_;have HO138:=n4_;have HO141:=n5_;have BK145:=n6_;have HB:=n7_;have HO160:=n8_;clear n0_ n1_ n2_ n3_ n4_ n5_ n6_ n7_ n8_;clear ho hb hg hat;obtain ⟨Ao77,co77,eo77⟩:=Kd.R_slice HO160.out;subst eo77;have hcz78_0:w76.cell? ⟨gb145,0,none⟩=some (.slice Ao67 t129.length co67):=(zb BK145.out 0).trans rfl;have hcz78_1:w76.cell? ⟨gb145,1,none⟩=some (.slice Ao71 t132.length co71):=(zb BK145.out 1).trans rfl;have hcz78_2:w76.cell? ⟨gb145,2,none⟩=some (.int .i64 (wrap64 (a0_2+1))):=(zb BK145.out 2).trans rfl;have hcz78_3:w76.cell? ⟨gb145,3,none⟩=some (.slice Ao72 t136.length co72):=(zb BK145.out 3).trans rfl;have hcz78_4:w76.cell? ⟨gb145,4,none⟩=some (.slice Ao73 t139.length co73):=(zb BK145.out 4).trans rfl;have hcz78_5:w76.cell? ⟨gb145,5,none⟩=some (.slice Ao74 t142.length co74):=(zb BK145.out 5).trans rfl;have hfz78_0:=za BK145.out 0;have hfz78_1:=za BK145.out 1;have hfz78_2:=za BK145.out 2;have hfz78_3:=za BK145.out 3;have hfz78_4:=za BK145.out 4;have hfz78_5:=za BK145.out 5))
    have n0_:Z0 (Kd.R Kd.string 9 (w76.setCell ⟨gb145,5,none⟩ (.slice Ao77 y158.length co77)) w.heap.size (fun _=>True) (.slice Ao67 t129.length co67) t129):=⟨zq103 HO131.out BK145.out⟩
    have n1_:Z0 (Kd.R k135 135 (w76.setCell ⟨gb145,5,none⟩ (.slice Ao77 y158.length co77)) w.heap.size (fun _=>True) (.slice Ao71 t132.length co71) t132):=⟨zq103 HO134.out BK145.out⟩
    have n2_:Z0 (Kd.R (Kd.int .i64) 3 (w76.setCell ⟨gb145,5,none⟩ (.slice Ao77 y158.length co77)) w.heap.size (fun k_=>some k_≠(.slice Ao73 t139.length co73:Value).ownBlock∧some k_≠(.slice Ao77 y158.length co77:Value).ownBlock) (.slice Ao72 t136.length co72) t136):=⟨zq72 HO138.out BK145.out⟩
    have n3_:Z0 (Kd.R (Kd.int .i64) 3 (w76.setCell ⟨gb145,5,none⟩ (.slice Ao77 y158.length co77)) w.heap.size (fun k_=>some k_≠(.slice Ao72 t136.length co72:Value).ownBlock∧some k_≠(.slice Ao77 y158.length co77:Value).ownBlock) (.slice Ao73 t139.length co73) t139):=⟨zq72 HO141.out BK145.out⟩
    have n4_:Z0 (Kd.R (Kd.int .i64) 3 (w76.setCell ⟨gb145,5,none⟩ (.slice Ao77 y158.length co77)) w.heap.size (fun k_=>some k_≠(.slice Ao72 t136.length co72:Value).ownBlock∧some k_≠(.slice Ao73 t139.length co73:Value).ownBlock) (.slice Ao77 y158.length co77) y158):=⟨zq72 HO160.out BK145.out⟩
    have n5_:Z0 ((w76.setCell ⟨gb145,5,none⟩ (.slice Ao77 y158.length co77)).heap[gb127]?=some (.cells #[.slice A0_0 l0_0.length c0_0,.slice A0_1 l0_1.length c0_1,.int .i64 a0_2,.slice A0_3 l0_3.length c0_3,.slice A0_4 l0_4.length c0_4,.slice A0_5 l0_5.length c0_5] 34 (0,0))):=⟨by (with_reducible repeat (first|refine zf ?_ _|refine zj ?_|refine zh ?_ _));refine zD ?_ NB127_145.out _;(with_reducible repeat (first|refine zf ?_ _|refine zj ?_|refine zh ?_ _));exact BK127.out⟩
    have n6_:Z0 ((w76.setCell ⟨gb145,5,none⟩ (.slice Ao77 y158.length co77)).heap[gb128]?=some (.cells #[.slice none 0 0,.slice none 0 0,.int .i64 0,.slice none 0 0,.slice none 0 0,.slice none 0 0] 34 (0,0))):=⟨by (with_reducible repeat (first|refine zf ?_ _|refine zj ?_|refine zh ?_ _));refine zD ?_ NB128_145.out _;(with_reducible repeat (first|refine zf ?_ _|refine zj ?_|refine zh ?_ _));exact BK128.out⟩
    have n7_:Z0 ((w76.setCell ⟨gb145,5,none⟩ (.slice Ao77 y158.length co77)).heap[gb145]?=some (.cells #[.slice Ao67 t129.length co67,.slice Ao71 t132.length co71,.int .i64 (wrap64 (a0_2+1)),.slice Ao72 t136.length co72,.slice Ao73 t139.length co73,.slice Ao77 y158.length co77] 34 (0,0))):=⟨by (with_reducible repeat (first|refine zf ?_ _|refine zj ?_|refine zh ?_ _));refine zr (cs:= #[.slice Ao67 t129.length co67,.slice Ao71 t132.length co71,.int .i64 (wrap64 (a0_2+1)),.slice Ao72 t136.length co72,.slice Ao73 t139.length co73,.slice Ao74 t142.length co74]) ?_ 5 _ rfl;(with_reducible repeat (first|refine zf ?_ _|refine zj ?_|refine zh ?_ _));exact BK145.out⟩
    have n8_:Z0 (Below w.heap.size w (w76.setCell ⟨gb145,5,none⟩ (.slice Ao77 y158.length co77))):=⟨by repeat (first|(with_reducible first|exact HB.out|apply zg|apply zd|apply zk|refine zn ?_ GE127.out|refine zn ?_ GE128.out|refine zn ?_ GE145.out)|exact HB.out)⟩
    (try clear HO131)
    (try clear HO134)
    (try clear HO138)
    (try clear HO141)
    (try clear HO160)
    (try clear BK127)
    (try clear BK128)
    (try clear BK145)
    (try clear HB)
    generalize (w76.setCell ⟨gb145,5,none⟩ (.slice Ao77 y158.length co77))=w79 at n0_ n1_ n2_ n3_ n4_ n5_ n6_ n7_ n8_ ⊢
    have HO131:=n0_
    have HO134:=n1_
    have HO138:=n2_
    have HO141:=n3_
    have HO160:=n4_
    have BK127:=n5_
    have BK128:=n6_
    have BK145:=n7_
    have HB:=n8_
    clear n0_ n1_ n2_ n3_ n4_ n5_ n6_ n7_ n8_
    have n0_:=zz (Kd.R_drew HO131.out)
    have n1_:=zz (Kd.R_drew HO134.out)
    have n2_:=zz (Kd.R_drew HO138.out)
    have n3_:=zz (Kd.R_drew HO141.out)
    have n4_:=zz (Kd.R_drew HO160.out)
    have n5_:=zz (zj BK127.out)
    have n6_:=zz (zj BK128.out)
    have n7_:=zz (zj BK145.out)
    have n8_:=zz (zk HB.out)
    clear HO131
    clear HO134
    clear HO138
    clear HO141
    clear HO160
    clear BK127
    clear BK128
    clear BK145
    clear HB
    have HO131:=n0_
    have HO134:=n1_
    have HO138:=n2_
    have HO141:=n3_
    have HO160:=n4_
    have BK127:=n5_
    have BK128:=n6_
    have BK145:=n7_
    have HB:=n8_
    clear n0_ n1_ n2_ n3_ n4_ n5_ n6_ n7_ n8_
    refine start_ (n:=5) (S:=fun w'=>w'.cell? ⟨gb145,0,none⟩=some (.slice Ao67 t129.length co67)∧w'.cell? ⟨gb145,1,none⟩=some (.slice Ao71 t132.length co71)∧w'.cell? ⟨gb145,2,none⟩=some (.int .i64 (wrap64 (a0_2+1)))∧w'.cell? ⟨gb145,3,none⟩=some (.slice Ao72 t136.length co72)∧w'.cell? ⟨gb145,4,none⟩=some (.slice Ao73 t139.length co73)∧w'.cell? ⟨gb145,5,none⟩=some (.slice Ao77 y158.length co77)∧w'.cell? ⟨gb127,0,none⟩=some (.slice A0_0 l0_0.length c0_0)∧w'.cell? ⟨gb127,1,none⟩=some (.slice A0_1 l0_1.length c0_1)∧w'.cell? ⟨gb127,2,none⟩=some (.int .i64 a0_2)∧w'.cell? ⟨gb127,3,none⟩=some (.slice A0_3 l0_3.length c0_3)∧w'.cell? ⟨gb127,4,none⟩=some (.slice A0_4 l0_4.length c0_4)∧w'.cell? ⟨gb127,5,none⟩=some (.slice A0_5 l0_5.length c0_5)) (ds:=[]) #[false,false,false,false,false] zq15 rfl rfl ⟨(zb BK145.out 0).trans rfl,(zb BK145.out 1).trans rfl,(zb BK145.out 2).trans rfl,(zb BK145.out 3).trans rfl,(zb BK145.out 4).trans rfl,(zb BK145.out 5).trans rfl,(zb BK127.out 0).trans rfl,(zb BK127.out 1).trans rfl,(zb BK127.out 2).trans rfl,(zb BK127.out 3).trans rfl,(zb BK127.out 4).trans rfl,(zb BK127.out 5).trans rfl⟩ (fun hHeld=> ?_)
    generalize w79.drew=w80 at HO131 HO134 HO138 HO141 HO160 BK127 BK128 BK145 HB hHeld ⊢
    refine zca (i:=1) (N:=some 51) (v:= ?_) (a':= ?_) #[false,true,false,false,false] rfl rfl zq15 (fun _ _ _ h=>h) (Or.inl ⟨zq44,zq27⟩) zq12 ?_
    refine take_ (i:=0) (N:=some 50) (v:= ?_) (a':= ?_) #[true,true,false,false,false] rfl rfl zq15 (fun _ _ _ h=>h) (Or.inl ⟨zq44,by rintro w' ⟨s0,s1,s2,s3,s4,s5,s6,s7,s8,s9,s10,s11⟩;go_simp;with_reducible rfl⟩) hHeld zq12 ?_
    refine take_ (i:=2) (N:=some 52) (v:= ?_) (a':= ?_) #[true,true,true,false,false] rfl rfl zq15 (fun _ _ _ h=>h) (Or.inl ⟨zq44,by rintro w' ⟨s0,s1,s2,s3,s4,s5,s6,s7,s8,s9,s10,s11⟩;go_simp;with_reducible rfl⟩) hHeld zq12 ?_
    refine one_ (i:=3) (N:=none) #[true,true,true,true,false] rfl rfl zq15 zq26 (fun K hK=> ?_)
    have hs81:w80.cell? ⟨gb128,0,none⟩=some (.slice none 0 0):=(zb BK128.out 0).trans rfl
    have hfs81:=za BK128.out 0
    have hns81_0:=NB127_128.out
    have hns81_2:=NB145_128.out
    have hms81_0:=NB128_127.out
    have hms81_2:=NB128_145.out
    have hs82:w80.cell? ⟨gb128,1,none⟩=some (.slice none 0 0):=(zb BK128.out 1).trans rfl
    have hfs82:=za BK128.out 1
    have hns82_0:=NB127_128.out
    have hns82_2:=NB145_128.out
    have hms82_0:=NB128_127.out
    have hms82_2:=NB128_145.out
    have hs83:w80.cell? ⟨gb128,2,none⟩=some (.int .i64 0):=(zb BK128.out 2).trans rfl
    have hfs83:=za BK128.out 2
    have hns83_0:=NB127_128.out
    have hns83_2:=NB145_128.out
    have hms83_0:=NB128_127.out
    have hms83_2:=NB128_145.out
    have hs84:w80.cell? ⟨gb128,3,none⟩=some (.slice none 0 0):=(zb BK128.out 3).trans rfl
    have hfs84:=za BK128.out 3
    have hns84_0:=NB127_128.out
    have hns84_2:=NB145_128.out
    have hms84_0:=NB128_127.out
    have hms84_2:=NB128_145.out
    have hs85:w80.cell? ⟨gb128,4,none⟩=some (.slice none 0 0):=(zb BK128.out 4).trans rfl
    have hfs85:=za BK128.out 4
    have hns85_0:=NB127_128.out
    have hns85_2:=NB145_128.out
    have hms85_0:=NB128_127.out
    have hms85_2:=NB128_145.out
    have hs86:w80.cell? ⟨gb128,5,none⟩=some (.slice none 0 0):=(zb BK128.out 5).trans rfl
    have hfs86:=za BK128.out 5
    have hns86_0:=NB127_128.out
    have hns86_2:=NB145_128.out
    have hms86_0:=NB128_127.out
    have hms86_2:=NB128_145.out
    refine skip_ (w1:= ?_) zq44 rfl ?_ ?_
    rotate_left
    ·go_simp
     rfl
    refine hK.out _ _ ⟨((zl (p:=⟨gb128,_,none⟩) NB145_128.out _).trans (((zl (p:=⟨gb128,_,none⟩) NB145_128.out _).trans (((zl (p:=⟨gb128,_,none⟩) NB145_128.out _).trans (((zl (p:=⟨gb128,_,none⟩) NB145_128.out _).trans (((zl (p:=⟨gb128,_,none⟩) NB145_128.out _).trans (((zl (p:=⟨gb128,_,none⟩) NB145_128.out _).trans (hHeld.1)))))))))))),((zl (p:=⟨gb128,_,none⟩) NB145_128.out _).trans (((zl (p:=⟨gb128,_,none⟩) NB145_128.out _).trans (((zl (p:=⟨gb128,_,none⟩) NB145_128.out _).trans (((zl (p:=⟨gb128,_,none⟩) NB145_128.out _).trans (((zl (p:=⟨gb128,_,none⟩) NB145_128.out _).trans (((zl (p:=⟨gb128,_,none⟩) NB145_128.out _).trans (hHeld.2.1)))))))))))),((zl (p:=⟨gb128,_,none⟩) NB145_128.out _).trans (((zl (p:=⟨gb128,_,none⟩) NB145_128.out _).trans (((zl (p:=⟨gb128,_,none⟩) NB145_128.out _).trans (((zl (p:=⟨gb128,_,none⟩) NB145_128.out _).trans (((zl (p:=⟨gb128,_,none⟩) NB145_128.out _).trans (((zl (p:=⟨gb128,_,none⟩) NB145_128.out _).trans (hHeld.2.2.1)))))))))))),((zl (p:=⟨gb128,_,none⟩) NB145_128.out _).trans (((zl (p:=⟨gb128,_,none⟩) NB145_128.out _).trans (((zl (p:=⟨gb128,_,none⟩) NB145_128.out _).trans (((zl (p:=⟨gb128,_,none⟩) NB145_128.out _).trans (((zl (p:=⟨gb128,_,none⟩) NB145_128.out _).trans (((zl (p:=⟨gb128,_,none⟩) NB145_128.out _).trans (hHeld.2.2.2.1)))))))))))),((zl (p:=⟨gb128,_,none⟩) NB145_128.out _).trans (((zl (p:=⟨gb128,_,none⟩) NB145_128.out _).trans (((zl (p:=⟨gb128,_,none⟩) NB145_128.out _).trans (((zl (p:=⟨gb128,_,none⟩) NB145_128.out _).trans (((zl (p:=⟨gb128,_,none⟩) NB145_128.out _).trans (((zl (p:=⟨gb128,_,none⟩) NB145_128.out _).trans (hHeld.2.2.2.2.1)))))))))))),((zl (p:=⟨gb128,_,none⟩) NB145_128.out _).trans (((zl (p:=⟨gb128,_,none⟩) NB145_128.out _).trans (((zl (p:=⟨gb128,_,none⟩) NB145_128.out _).trans (((zl (p:=⟨gb128,_,none⟩) NB145_128.out _).trans (((zl (p:=⟨gb128,_,none⟩) NB145_128.out _).trans (((zl (p:=⟨gb128,_,none⟩) NB145_128.out _).trans (hHeld.2.2.2.2.2.1)))))))))))),((zl (p:=⟨gb128,_,none⟩) NB127_128.out _).trans (((zl (p:=⟨gb128,_,none⟩) NB127_128.out _).trans (((zl (p:=⟨gb128,_,none⟩) NB127_128.out _).trans (((zl (p:=⟨gb128,_,none⟩) NB127_128.out _).trans (((zl (p:=⟨gb128,_,none⟩) NB127_128.out _).trans (((zl (p:=⟨gb128,_,none⟩) NB127_128.out _).trans (hHeld.2.2.2.2.2.2.1)))))))))))),((zl (p:=⟨gb128,_,none⟩) NB127_128.out _).trans (((zl (p:=⟨gb128,_,none⟩) NB127_128.out _).trans (((zl (p:=⟨gb128,_,none⟩) NB127_128.out _).trans (((zl (p:=⟨gb128,_,none⟩) NB127_128.out _).trans (((zl (p:=⟨gb128,_,none⟩) NB127_128.out _).trans (((zl (p:=⟨gb128,_,none⟩) NB127_128.out _).trans (hHeld.2.2.2.2.2.2.2.1)))))))))))),((zl (p:=⟨gb128,_,none⟩) NB127_128.out _).trans (((zl (p:=⟨gb128,_,none⟩) NB127_128.out _).trans (((zl (p:=⟨gb128,_,none⟩) NB127_128.out _).trans (((zl (p:=⟨gb128,_,none⟩) NB127_128.out _).trans (((zl (p:=⟨gb128,_,none⟩) NB127_128.out _).trans (((zl (p:=⟨gb128,_,none⟩) NB127_128.out _).trans (hHeld.2.2.2.2.2.2.2.2.1)))))))))))),((zl (p:=⟨gb128,_,none⟩) NB127_128.out _).trans (((zl (p:=⟨gb128,_,none⟩) NB127_128.out _).trans (((zl (p:=⟨gb128,_,none⟩) NB127_128.out _).trans (((zl (p:=⟨gb128,_,none⟩) NB127_128.out _).trans (((zl (p:=⟨gb128,_,none⟩) NB127_128.out _).trans (((zl (p:=⟨gb128,_,none⟩) NB127_128.out _).trans (hHeld.2.2.2.2.2.2.2.2.2.1)))))))))))),((zl (p:=⟨gb128,_,none⟩) NB127_128.out _).trans (((zl (p:=⟨gb128,_,none⟩) NB127_128.out _).trans (((zl (p:=⟨gb128,_,none⟩) NB127_128.out _).trans (((zl (p:=⟨gb128,_,none⟩) NB127_128.out _).trans (((zl (p:=⟨gb128,_,none⟩) NB127_128.out _).trans (((zl (p:=⟨gb128,_,none⟩) NB127_128.out _).trans (hHeld.2.2.2.2.2.2.2.2.2.2.1)))))))))))),((zl (p:=⟨gb128,_,none⟩) NB127_128.out _).trans (((zl (p:=⟨gb128,_,none⟩) NB127_128.out _).trans (((zl (p:=⟨gb128,_,none⟩) NB127_128.out _).trans (((zl (p:=⟨gb128,_,none⟩) NB127_128.out _).trans (((zl (p:=⟨gb128,_,none⟩) NB127_128.out _).trans (((zl (p:=⟨gb128,_,none⟩) NB127_128.out _).trans (hHeld.2.2.2.2.2.2.2.2.2.2.2))))))))))))⟩ (fun hHeld=> ?_)
    clear hK K
    refine zca (i:=4) (N:=some 3) (v:= ?_) (a':= ?_) #[true,true,true,true,true] rfl rfl zq15 (fun _ _ _ h=>h) (Or.inl ⟨zq44,zq27⟩) zq12 ?_
    refine done_ zq15 ?_
    try go_wp2
    refine bodyPost_ret (zN rfl _ _ gb128 34 #[.slice Ao67 t129.length co67,.slice Ao71 t132.length co71,.int .i64 (wrap64 (a0_2+1)),.slice Ao72 t136.length co72,.slice Ao73 t139.length co73,.slice Ao77 y158.length co77] (0,0) _ rfl (by (with_reducible repeat (first|refine zf ?_ _|refine zj ?_|refine zh ?_ _));refine zr (cs:= #[.slice Ao67 t129.length co67,.slice Ao71 t132.length co71,.int .i64 (wrap64 (a0_2+1)),.slice Ao72 t136.length co72,.slice Ao73 t139.length co73,.slice none 0 0]) ?_ 5 _ rfl;(with_reducible repeat (first|refine zf ?_ _|refine zj ?_|refine zh ?_ _));refine zr (cs:= #[.slice Ao67 t129.length co67,.slice Ao71 t132.length co71,.int .i64 (wrap64 (a0_2+1)),.slice Ao72 t136.length co72,.slice none 0 0,.slice none 0 0]) ?_ 4 _ rfl;(with_reducible repeat (first|refine zf ?_ _|refine zj ?_|refine zh ?_ _));refine zr (cs:= #[.slice Ao67 t129.length co67,.slice Ao71 t132.length co71,.int .i64 (wrap64 (a0_2+1)),.slice none 0 0,.slice none 0 0,.slice none 0 0]) ?_ 3 _ rfl;(with_reducible repeat (first|refine zf ?_ _|refine zj ?_|refine zh ?_ _));refine zr (cs:= #[.slice Ao67 t129.length co67,.slice Ao71 t132.length co71,.int .i64 0,.slice none 0 0,.slice none 0 0,.slice none 0 0]) ?_ 2 _ rfl;(with_reducible repeat (first|refine zf ?_ _|refine zj ?_|refine zh ?_ _));refine zr (cs:= #[.slice Ao67 t129.length co67,.slice none 0 0,.int .i64 0,.slice none 0 0,.slice none 0 0,.slice none 0 0]) ?_ 1 _ rfl;(with_reducible repeat (first|refine zf ?_ _|refine zj ?_|refine zh ?_ _));refine zr (cs:= #[.slice none 0 0,.slice none 0 0,.int .i64 0,.slice none 0 0,.slice none 0 0,.slice none 0 0]) ?_ 0 _ rfl;(with_reducible repeat (first|refine zf ?_ _|refine zj ?_|refine zh ?_ _));exact BK128.out) Try.underlying34 rfl zq15) rfl ?_
    exact ⟨_,_,_,_,_,zq10,zq47 HO131.out BK128.out,zq47 HO134.out BK128.out,zq36 HO138.out BK128.out,zq36 HO141.out BK128.out,zq36 HO160.out BK128.out,by repeat (first|(with_reducible first|exact HB.out|apply zg|apply zd|apply zk|refine zn ?_ GE127.out|refine zn ?_ GE128.out|refine zn ?_ GE145.out)|exact HB.out)⟩
   ·rw [if_neg c60] at H
    exact absurd H zq52
theorem specGive_o (l0:List ByteArray) (l1:List S135) (l2:Int) (l3:List Int) (l4:List Int) (l5:List Int) (q0:List ByteArray) (q1:List S135) (q2:Int) (q3:List Int) (q4:List Int) (q5:List Int) (r:Int) {cs:List Value} (w:World) (h:kWork.K w (l0,l1,l2,l3,l4,l5) cs) (hf:spec_GivePage.f l0 l1 l2 l3 l4 l5=some (q0,q1,q2,q3,q4,q5,r)):
  Calls Try.prog 10 #[.agg cs.toArray] w fun e w'=>∃ds:List Value,e= .returned (.tuple #[.agg ds.toArray,.int .i64 r])∧kWork.M w' w.heap.size (fun k=>w.heap.size≤k∧k<w'.heap.size) (q0,q1,q2,q3,q4,q5) ds∧Below w.heap.size w w':=by
 obtain ⟨A0,c0,A1,c1,A3,c3,A4,c4,A5,c5,rfl,m0,r0,m1,r1,m3,r3,m4,r4,m5,r5⟩:=zUa h
 refine (spec_GivePage.calls A0 c0 l0 A1 c1 l1 l2 A3 c3 l3 A4 c4 l4 A5 c5 l5 q0 q1 q2 q3 q4 q5 r w r0 m0 r1 m1 r3 m3 r4 m4 r5 m5 hf).mono ?_
 rintro e w' ⟨v0,v1,v3,v4,v5,rfl,R0,R1,R3,R4,R5,hb⟩
 refine ⟨[v0,v1,.int .i64 q2,v3,v4,v5],rfl,?_,hb⟩
 have T0:=Own.R_tightB rfl R0
 have T1:=Own.R_tightB rfl R1
 have T3:=Own.Q_tightB rfl (Kd.Q_of_R R3)
 have T4:=Own.Q_tightB rfl (Kd.Q_of_R R4)
 have T5:=Own.Q_tightB rfl (Kd.Q_of_R R5)
 refine kWork_mkM T0.1 T1.1 T3.1 T4.1 T5.1 T0.2.1 T1.2.1 T3.2.1 T4.2.1 T5.2.1 ?_ ?_ ?_ ?_ ?_ ?_ ?_ ?_ ?_ ?_
 ·exact Own.types_ne T0.2.2 T1.2.2 zq26
 ·exact Own.types_ne T0.2.2 T3.2.2 zq26
 ·exact Own.types_ne T0.2.2 T4.2.2 zq26
 ·exact Own.types_ne T0.2.2 T5.2.2 zq26
 ·exact Own.types_ne T1.2.2 T3.2.2 zq26
 ·exact Own.types_ne T1.2.2 T4.2.2 zq26
 ·exact Own.types_ne T1.2.2 T5.2.2 zq26
 ·exact fun k h1 h2=>(R4.1 k h2.symm).1 h1
 ·exact fun k h1 h2=>(R5.1 k h2.symm).1 h1
 ·exact fun k h1 h2=>(R5.1 k h2.symm).2 h1
end Go.Proofs.Ytonhdiemjgdcnaa.PFnExactGivePage
