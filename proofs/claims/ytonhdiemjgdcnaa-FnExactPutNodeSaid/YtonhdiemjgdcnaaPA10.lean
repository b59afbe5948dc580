import Derived.Test.YtonhdiemjgdcnaaPA9
set_option maxHeartbeats 64000000
set_option maxRecDepth 100000
set_option linter.unusedVariables false
set_option linter.unusedSimpArgs false
namespace Go.Proofs.Ytonhdiemjgdcnaa.PFnExactGivePage
open Go.RowKit Go.Proofs.YtonhdiemjgdcnaaW.PrintWords Go.Proofs.YtonhdiemjgdcnaaW.PrintLast Go.Proofs.YtonhdiemjgdcnaaW.PrintMore
attribute [local go_sem] zO zP zY zX zK zJ zQ zR
def laws_szNode.f (k:Nat) (a0_0:Bool) (l0_1:List ByteArray) (l0_2:List ByteArray) (l0_3:List Int) (a1:Int):Option (Int):=(laws_szStringS.f k l0_1 a1).bind fun t218=>(if t218<0 then (some (-1)) else ((laws_szStringS.f k l0_2 t218).bind fun t219=>(if t219<0 then (some (-1)) else ((laws_szIntS.f l0_3 t219).bind fun t220=>(if t220<0 then (some (-1)) else (some t220))))))
theorem laws_szNode.calls (k:Nat) (a0_0:Bool) (A0_1:Option Addr) (c0_1:Nat) (l0_1:List ByteArray) (A0_2:Option Addr) (c0_2:Nat) (l0_2:List ByteArray) (A0_3:Option Addr) (c0_3:Nat) (l0_3:List Int) (a1:Int) (r:Int) (w:World) (hr0_1:Kd.C Kd.string w A0_1 l0_1.length l0_1) (hc0_1:l0_1.length≤c0_1) (hr0_2:Kd.C Kd.string w A0_2 l0_2.length l0_2) (hc0_2:l0_2.length≤c0_2) (hr0_3:Kd.C (Kd.int .i64) w A0_3 l0_3.length l0_3) (hc0_3:l0_3.length≤c0_3) (h:laws_szNode.f k a0_0 l0_1 l0_2 l0_3 a1=some r):
  Calls Try.prog 16 #[.agg #[.bool a0_0,.slice A0_1 l0_1.length c0_1,.slice A0_2 l0_2.length c0_2,.slice A0_3 l0_3.length c0_3],.int .i64 a1] w fun e w'=>e= .returned (.int .i64 r)∧Below w.heap.size w w':=by
 have hu42:=Try.underlying42
 have HR0_1:=zz hr0_1
 have HC0_1:=zz hc0_1
 clear hr0_1 hc0_1
 have HR0_2:=zz hr0_2
 have HC0_2:=zz hc0_2
 clear hr0_2 hc0_2
 have HR0_3:=zz hr0_3
 have HC0_3:=zz hc0_3
 clear hr0_3 hc0_3
 have HB:=zz (Below.refl w.heap.size w)
 have H:((laws_szStringS.f k l0_1 a1).bind fun t218=>(if t218<0 then (some (-1)) else ((laws_szStringS.f k l0_2 t218).bind fun t219=>(if t219<0 then (some (-1)) else ((laws_szIntS.f l0_3 t219).bind fun t220=>(if t220<0 then (some (-1)) else (some t220)))))))=some r:=h
 clear h
 replace H:=Option.bind_eq_some_iff.mp H
 obtain ⟨t218,A30,H⟩:=H
 replace H:(if t218<0 then (some (-1)) else ((laws_szStringS.f k l0_2 t218).bind fun t219=>(if t219<0 then (some (-1)) else ((laws_szIntS.f l0_3 t219).bind fun t220=>(if t220<0 then (some (-1)) else (some t220))))))=some r:=H
 have A3:=zz A30
 clear A30
 by_cases c4:t218<0
 ·rw [if_pos c4] at H
  have c4b0:=decide_eq_true c4
  clear c4
  obtain rfl:=Option.some.inj H
  go_enter Try.func16,Try.ntmps16
  go_wp2_with (first|((with_reducible refine zm (N:=2) rfl ?_);refine zq ?hg (N:=2) ?hd (cs:= #[.bool a0_0,.slice A0_1 l0_1.length c0_1,.slice A0_2 l0_2.length c0_2,.slice A0_3 l0_3.length c0_3]) (t:=42) ?hr ?_;(case hd=>rfl);(case hg=>rfl);(case hr=>first|(go_simp;done)|(go_simp;rfl));intro gb217 hg w5 hbox hb;have n0_:=zz (ze zq2 hb);have n1_:=zz (hbox);have n2_:=zz ((by rw [hg];exact (zc zq2):w.heap.size≤gb217));have n3_:=zz ((by rw [hg];exact (zc zq2):w.heap.size≤gb217));clear HB;have HB:=n0_;have BK217:=n1_;have GW217:=n2_;have GE217:=n3_;clear n0_ n1_ n2_ n3_;clear hb hbox hg;have hcz6_0:w5.cell? ⟨gb217,0,none⟩=some (.bool a0_0):=(zb BK217.out 0).trans rfl;have hcz6_1:w5.cell? ⟨gb217,1,none⟩=some (.slice A0_1 l0_1.length c0_1):=(zb BK217.out 1).trans rfl;have hcz6_2:w5.cell? ⟨gb217,2,none⟩=some (.slice A0_2 l0_2.length c0_2):=(zb BK217.out 2).trans rfl;have hcz6_3:w5.cell? ⟨gb217,3,none⟩=some (.slice A0_3 l0_3.length c0_3):=(zb BK217.out 3).trans rfl;have hfz6_0:=za BK217.out 0;have hfz6_1:=za BK217.out 1;have hfz6_2:=za BK217.out 2;have hfz6_3:=za BK217.out 3)|((with_reducible refine zo (f:=54) rfl ?_);refine zw (some 8) rfl rfl Try.func54 zq15 rfl #[.slice A0_1 l0_1.length c0_1,.int .i64 a1] rfl zq4 ?_;(with_reducible refine (laws_szStringS.calls k _ _ l0_1 a1 t218 _ ?side1 ?side2 A3.out).mono ?_);(case side1=>repeat (first|exact (Kd.C_below HR0_1.out HB.out)|(with_reducible refine Kd.C_alloc ?_ _)|(with_reducible refine Kd.C_drewN ?_ _)|(with_reducible refine Kd.C_drew ?_)));(case side2=>exact HC0_1.out);rintro e w' ⟨rfl,⟨nd,rfl⟩⟩;refine ⟨_,rfl,?_⟩))
  go_ret
  exact ⟨zq10,by repeat (first|(with_reducible first|exact HB.out|apply zg|apply zd|apply zk|refine zn ?_ GE217.out)|exact HB.out)⟩
 ·rw [if_neg c4] at H
  have c4b0:=decide_eq_false c4
  clear c4
  replace H:=Option.bind_eq_some_iff.mp H
  obtain ⟨t219,A70,H⟩:=H
  replace H:(if t219<0 then (some (-1)) else ((laws_szIntS.f l0_3 t219).bind fun t220=>(if t220<0 then (some (-1)) else (some t220))))=some r:=H
  have A7:=zz A70
  clear A70
  by_cases c8:t219<0
  ·rw [if_pos c8] at H
   have c8b0:=decide_eq_true c8
   clear c8
   obtain rfl:=Option.some.inj H
   go_enter Try.func16,Try.ntmps16
   go_wp2_with (first|((with_reducible refine zm (N:=2) rfl ?_);refine zq ?hg (N:=2) ?hd (cs:= #[.bool a0_0,.slice A0_1 l0_1.length c0_1,.slice A0_2 l0_2.length c0_2,.slice A0_3 l0_3.length c0_3]) (t:=42) ?hr ?_;(case hd=>rfl);(case hg=>rfl);(case hr=>first|(go_simp;done)|(go_simp;rfl));intro gb217 hg w9 hbox hb;have n0_:=zz (ze zq2 hb);have n1_:=zz (hbox);have n2_:=zz ((by rw [hg];exact (zc zq2):w.heap.size≤gb217));have n3_:=zz ((by rw [hg];exact (zc zq2):w.heap.size≤gb217));clear HB;have HB:=n0_;have BK217:=n1_;have GW217:=n2_;have GE217:=n3_;clear n0_ n1_ n2_ n3_;clear hb hbox hg;have hcz10_0:w9.cell? ⟨gb217,0,none⟩=some (.bool a0_0):=(zb BK217.out 0).trans rfl;have hcz10_1:w9.cell? ⟨gb217,1,none⟩=some (.slice A0_1 l0_1.length c0_1):=(zb BK217.out 1).trans rfl;have hcz10_2:w9.cell? ⟨gb217,2,none⟩=some (.slice A0_2 l0_2.length c0_2):=(zb BK217.out 2).trans rfl;have hcz10_3:w9.cell? ⟨gb217,3,none⟩=some (.slice A0_3 l0_3.length c0_3):=(zb BK217.out 3).trans rfl;have hfz10_0:=za BK217.out 0;have hfz10_1:=za BK217.out 1;have hfz10_2:=za BK217.out 2;have hfz10_3:=za BK217.out 3)|((with_reducible refine zo (f:=54) rfl ?_);refine zw (some 8) rfl rfl Try.func54 zq15 rfl #[.slice A0_1 l0_1.length c0_1,.int .i64 a1] rfl zq4 ?_;(with_reducible refine (laws_szStringS.calls k _ _ l0_1 a1 t218 _ ?side1 ?side2 A3.out).mono ?_);(case side1=>repeat (first|exact (Kd.C_below HR0_1.out HB.out)|(with_reducible refine Kd.C_alloc ?_ _)|(with_reducible refine Kd.C_drewN ?_ _)|(with_reducible refine Kd.C_drew ?_)));(case side2=>exact HC0_1.out);rintro e w' ⟨rfl,⟨nd,rfl⟩⟩;refine ⟨_,rfl,?_⟩)|((with_reducible refine zo (f:=54) rfl ?_);refine zw (some 14) rfl rfl Try.func54 zq15 rfl #[.slice A0_2 l0_2.length c0_2,.int .i64 t218] rfl zq4 ?_;(with_reducible refine (laws_szStringS.calls k _ _ l0_2 t218 t219 _ ?side1 ?side2 A7.out).mono ?_);(case side1=>repeat (first|exact (Kd.C_below HR0_2.out (zq3 GE217.out))|(with_reducible refine Kd.C_alloc ?_ _)|(with_reducible refine Kd.C_drewN ?_ _)|(with_reducible refine Kd.C_drew ?_)));(case side2=>exact HC0_2.out);rintro e w' ⟨rfl,⟨nd,rfl⟩⟩;refine ⟨_,rfl,?_⟩))
   go_ret
   exact ⟨zq10,by repeat (first|(with_reducible first|exact HB.out|apply zg|apply zd|apply zk|refine zn ?_ GE217.out)|exact HB.out)⟩
  ·rw [if_neg c8] at H
   have c8b0:=decide_eq_false c8
   clear c8
   replace H:=Option.bind_eq_some_iff.mp H
   obtain ⟨t220,A110,H⟩:=H
   replace H:(if t220<0 then (some (-1)) else (some t220))=some r:=H
   have A11:=zz A110
   clear A110
   by_cases c12:t220<0
   ·rw [if_pos c12] at H
    have c12b0:=decide_eq_true c12
    clear c12
    obtain rfl:=Option.some.inj H
    go_enter Try.func16,Try.ntmps16
    go_wp2_with (first|((with_reducible refine zm (N:=2) rfl ?_);refine zq ?hg (N:=2) ?hd (cs:= #[.bool a0_0,.slice A0_1 l0_1.length c0_1,.slice A0_2 l0_2.length c0_2,.slice A0_3 l0_3.length c0_3]) (t:=42) ?hr ?_;(case hd=>rfl);(case hg=>rfl);(case hr=>first|(go_simp;done)|(go_simp;rfl));intro gb217 hg w13 hbox hb;have n0_:=zz (ze zq2 hb);have n1_:=zz (hbox);have n2_:=zz ((by rw [hg];exact (zc zq2):w.heap.size≤gb217));have n3_:=zz ((by rw [hg];exact (zc zq2):w.heap.size≤gb217));clear HB;have HB:=n0_;have BK217:=n1_;have GW217:=n2_;have GE217:=n3_;clear n0_ n1_ n2_ n3_;clear hb hbox hg;have hcz14_0:w13.cell? ⟨gb217,0,none⟩=some (.bool a0_0):=(zb BK217.out 0).trans rfl;have hcz14_1:w13.cell? ⟨gb217,1,none⟩=some (.slice A0_1 l0_1.length c0_1):=(zb BK217.out 1).trans rfl;have hcz14_2:w13.cell? ⟨gb217,2,none⟩=some (.slice A0_2 l0_2.length c0_2):=(zb BK217.out 2).trans rfl;have hcz14_3:w13.cell? ⟨gb217,3,none⟩=some (.slice A0_3 l0_3.length c0_3):=(zb BK217.out 3).trans rfl;have hfz14_0:=za BK217.out 0;have hfz14_1:=za BK217.out 1;have hfz14_2:=za BK217.out 2;have hfz14_3:=za BK217.out 3)|((with_reducible refine zo (f:=54) rfl ?_);refine zw (some 8) rfl rfl Try.func54 zq15 rfl #[.slice A0_1 l0_1.length c0_1,.int .i64 a1] rfl zq4 ?_;(with_reducible refine (laws_szStringS.calls k _ _ l0_1 a1 t218 _ ?side1 ?side2 A3.out).mono ?_);(case side1=>repeat (first|exact (Kd.C_below HR0_1.out HB.out)|(with_reducible refine Kd.C_alloc ?_ _)|(with_reducible refine Kd.C_drewN ?_ _)|(with_reducible refine Kd.C_drew ?_)));(case side2=>exact HC0_1.out);rintro e w' ⟨rfl,⟨nd,rfl⟩⟩;refine ⟨_,rfl,?_⟩)|((with_reducible refine zo (f:=54) rfl ?_);refine zw (some 14) rfl rfl Try.func54 zq15 rfl #[.slice A0_2 l0_2.length c0_2,.int .i64 t218] rfl zq4 ?_;(with_reducible refine (laws_szStringS.calls k _ _ l0_2 t218 t219 _ ?side1 ?side2 A7.out).mono ?_);(case side1=>repeat (first|exact (Kd.C_below HR0_2.out (zq3 GE217.out))|(with_reducible refine Kd.C_alloc ?_ _)|(with_reducible refine Kd.C_drewN ?_ _)|(with_reducible refine Kd.C_drew ?_)));(case side2=>exact HC0_2.out);rintro e w' ⟨rfl,⟨nd,rfl⟩⟩;refine ⟨_,rfl,?_⟩)|((with_reducible refine zo (f:=46) rfl ?_);refine zw (some 20) rfl rfl Try.func46 zq15 rfl #[.slice A0_3 l0_3.length c0_3,.int .i64 t219] rfl zq4 ?_;(with_reducible refine (laws_szIntS.calls _ _ l0_3 t219 t220 _ ?side1 ?side2 A11.out).mono ?_);(case side1=>repeat (first|exact (Kd.C_below HR0_3.out (zq3 GE217.out))|(with_reducible refine Kd.C_alloc ?_ _)|(with_reducible refine Kd.C_drewN ?_ _)|(with_reducible refine Kd.C_drew ?_)));(case side2=>exact HC0_3.out);rintro e w' ⟨rfl,⟨nd,rfl⟩⟩;refine ⟨_,rfl,?_⟩))
    go_ret
    exact ⟨zq10,by repeat (first|(with_reducible first|exact HB.out|apply zg|apply zd|apply zk|refine zn ?_ GE217.out)|exact HB.out)⟩
   ·rw [if_neg c12] at H
    have c12b0:=decide_eq_false c12
    clear c12
    obtain rfl:=Option.some.inj H
    go_enter Try.func16,Try.ntmps16
    go_wp2_with (first|((with_reducible refine zm (N:=2) rfl ?_);refine zq ?hg (N:=2) ?hd (cs:= #[.bool a0_0,.slice A0_1 l0_1.length c0_1,.slice A0_2 l0_2.length c0_2,.slice A0_3 l0_3.length c0_3]) (t:=42) ?hr ?_;(case hd=>rfl);(case hg=>rfl);(case hr=>first|(go_simp;done)|(go_simp;rfl));intro gb217 hg w15 hbox hb;have n0_:=zz (ze zq2 hb);have n1_:=zz (hbox);have n2_:=zz ((by rw [hg];exact (zc zq2):w.heap.size≤gb217));have n3_:=zz ((by rw [hg];exact (zc zq2):w.heap.size≤gb217));clear HB;have HB:=n0_;have BK217:=n1_;have GW217:=n2_;have GE217:=n3_;clear n0_ n1_ n2_ n3_;clear hb hbox hg;have hcz16_0:w15.cell? ⟨gb217,0,none⟩=some (.bool a0_0):=(zb BK217.out 0).trans rfl;have hcz16_1:w15.cell? ⟨gb217,1,none⟩=some (.slice A0_1 l0_1.length c0_1):=(zb BK217.out 1).trans rfl;have hcz16_2:w15.cell? ⟨gb217,2,none⟩=some (.slice A0_2 l0_2.length c0_2):=(zb BK217.out 2).trans rfl;have hcz16_3:w15.cell? ⟨gb217,3,none⟩=some (.slice A0_3 l0_3.length c0_3):=(zb BK217.out 3).trans rfl;have hfz16_0:=za BK217.out 0;have hfz16_1:=za BK217.out 1;have hfz16_2:=za BK217.out 2;have hfz16_3:=za BK217.out 3)|((with_reducible refine zo (f:=54) rfl ?_);refine zw (some 8) rfl rfl Try.func54 zq15 rfl #[.slice A0_1 l0_1.length c0_1,.int .i64 a1] rfl zq4 ?_;(with_reducible refine (laws_szStringS.calls k _ _ l0_1 a1 t218 _ ?side1 ?side2 A3.out).mono ?_);(case side1=>repeat (first|exact (Kd.C_below HR0_1.out HB.out)|(with_reducible refine Kd.C_alloc ?_ _)|(with_reducible refine Kd.C_drewN ?_ _)|(with_reducible refine Kd.C_drew ?_)));(case side2=>exact HC0_1.out);rintro e w' ⟨rfl,⟨nd,rfl⟩⟩;refine ⟨_,rfl,?_⟩)|((with_reducible refine zo (f:=54) rfl ?_);refine zw (some 14) rfl rfl Try.func54 zq15 rfl #[.slice A0_2 l0_2.length c0_2,.int .i64 t218] rfl zq4 ?_;(with_reducible refine (laws_szStringS.calls k _ _ l0_2 t218 t219 _ ?side1 ?side2 A7.out).mono ?_);(case side1=>repeat (first|exact (Kd.C_below HR0_2.out (zq3 GE217.out))|(with_reducible refine Kd.C_alloc ?_ _)|(with_reducible refine Kd.C_drewN ?_ _)|(with_reducible refine Kd.C_drew ?_)));(case side2=>exact HC0_2.out);rintro e w' ⟨rfl,⟨nd,rfl⟩⟩;refine ⟨_,rfl,?_⟩)|((with_reducible refine zo (f:=46) rfl ?_);refine zw (some 20) rfl rfl Try.func46 zq15 rfl #[.slice A0_3 l0_3.length c0_3,.int .i64 t219] rfl zq4 ?_;(with_reducible refine (laws_szIntS.calls _ _ l0_3 t219 t220 _ ?side1 ?side2 A11.out).mono ?_);(case side1=>repeat (first|exact (Kd.C_below HR0_3.out (zq3 GE217.out))|(with_reducible refine Kd.C_alloc ?_ _)|(with_reducible refine Kd.C_drewN ?_ _)|(with_reducible refine Kd.C_drew ?_)));(case side2=>exact HC0_3.out);rintro e w' ⟨rfl,⟨nd,rfl⟩⟩;refine ⟨_,rfl,?_⟩))
    go_ret
    exact ⟨zq10,by repeat (first|(with_reducible first|exact HB.out|apply zg|apply zd|apply zk|refine zn ?_ GE217.out)|exact HB.out)⟩
def spec_l04Short.f (k:Nat) (a0:ByteArray):Option (ByteArray):=(spec_l01Var.f k (a0.size:Int)).bind fun t246=>(if t246.size+a0.size≤9223372036854775807 then (some (t246++a0)) else (none))
theorem spec_l04Short.calls (k:Nat) (a0:ByteArray) (r:ByteArray) (w:World) (h:spec_l04Short.f k a0=some r):
  Calls Try.prog 149 #[.string a0] w fun e w'=>e= .returned (.string r)∧Below w.heap.size w w':=by
 have HB:=zz (Below.refl w.heap.size w)
 have H:((spec_l01Var.f k (a0.size:Int)).bind fun t246=>(if t246.size+a0.size≤9223372036854775807 then (some (t246++a0)) else (none)))=some r:=h
 clear h
 replace H:=Option.bind_eq_some_iff.mp H
 obtain ⟨t246,A20,H⟩:=H
 replace H:(if t246.size+a0.size≤9223372036854775807 then (some (t246++a0)) else (none))=some r:=H
 have A2:=zz A20
 clear A20
 by_cases c3:t246.size+a0.size≤9223372036854775807
 ·rw [if_pos c3] at H
  have c3b0:=eq_true c3
  have c3b1:=decide_eq_true c3
  try have c3b2:(9223372036854775807<t246.size+a0.size)=False:=eq_false (Nat.not_lt.2 c3)
  obtain rfl:=Option.some.inj H
  go_enter Try.func149,Try.ntmps149
  go_wp2_with (first|((with_reducible refine zo (f:=139) rfl ?_);refine zw (some 5) rfl rfl Try.func139 zq15 rfl #[.int .i64 (a0.size:Int)] rfl zq4 ?_;(with_reducible refine (spec_l01Var.calls k (a0.size:Int) t246 _ A2.out).mono ?_);rintro e w4 ⟨rfl,hb⟩;refine ⟨_,rfl,?_⟩;have n0_:=zz (ze zq2 hb);clear HB;have HB:=n0_;clear n0_;(try clear hb);(try clear hb2);(try clear hk);(try clear hi)))
  go_ret
  exact ⟨zq10,by repeat (first|(with_reducible first|exact HB.out|apply zg|apply zd|apply zk)|exact HB.out)⟩
 ·rw [if_neg c3] at H
  exact absurd H zq52
mutual
def spec_l05Bytes.j0:Nat→ByteArray→Bool→List ByteArray→List ByteArray→List Int→Option (ByteArray)
 |0,_,_,_,_,_=>none
 |k+1,x3,x248000,x248001,x248002,x248003=>(spec_l01Var.f k (x248001.length:Int)).bind fun t248=>(if x3.size+t248.size≤9223372036854775807 then (spec_l05Bytes.l0 k (x3++t248) 0 x248000 x248001 x248002 x248003) else (none))
def spec_l05Bytes.l0:Nat→ByteArray→Int→Bool→List ByteArray→List ByteArray→List Int→Option (ByteArray)
 |0,_,_,_,_,_,_=>none
 |k+1,x3,x4,x248000,x248001,x248002,x248003=>if x4<(x248001.length:Int) then (if 0≤x4 then ((spec_l04Short.f k (zpa ByteArray.empty x248001 x4)).bind fun t250=>(if x3.size+t250.size≤9223372036854775807 then (if x248000=true then (if x4<(x248002.length:Int) then ((spec_l04Short.f k (zpa ByteArray.empty x248002 x4)).bind fun t252=>(if (x3++t250).size+t252.size≤9223372036854775807 then (spec_l05Bytes.l0 k ((x3++t250)++t252) (wrap64 (x4+1)) x248000 x248001 x248002 x248003) else (none))) else (none)) else (if x4<(x248003.length:Int) then ((spec_l01Var.f k (rd x248003 x4)).bind fun t254=>(if (x3++t250).size+t254.size≤9223372036854775807 then (spec_l05Bytes.l0 k ((x3++t250)++t254) (wrap64 (x4+1)) x248000 x248001 x248002 x248003) else (none))) else (none))) else (none))) else (none)) else (some x3)
end
def spec_l05Bytes.f (k:Nat) (a0_0:Bool) (l0_1:List ByteArray) (l0_2:List ByteArray) (l0_3:List Int):Option (ByteArray):=if a0_0=true then (spec_l05Bytes.j0 k (⟨#[108]⟩:ByteArray) a0_0 l0_1 l0_2 l0_3) else (spec_l05Bytes.j0 k (⟨#[98]⟩:ByteArray) a0_0 l0_1 l0_2 l0_3)
theorem spec_l05Bytes.calls (k:Nat) (a0_0:Bool) (A0_1:Option Addr) (c0_1:Nat) (l0_1:List ByteArray) (A0_2:Option Addr) (c0_2:Nat) (l0_2:List ByteArray) (A0_3:Option Addr) (c0_3:Nat) (l0_3:List Int) (r:ByteArray) (w:World) (hr0_1:Kd.C Kd.string w A0_1 l0_1.length l0_1) (hc0_1:l0_1.length≤c0_1) (hr0_2:Kd.C Kd.string w A0_2 l0_2.length l0_2) (hc0_2:l0_2.length≤c0_2) (hr0_3:Kd.C (Kd.int .i64) w A0_3 l0_3.length l0_3) (hc0_3:l0_3.length≤c0_3) (h:spec_l05Bytes.f k a0_0 l0_1 l0_2 l0_3=some r):
  Calls Try.prog 107 #[.agg #[.bool a0_0,.slice A0_1 l0_1.length c0_1,.slice A0_2 l0_2.length c0_2,.slice A0_3 l0_3.length c0_3]] w fun e w'=>e= .returned (.string r)∧Below w.heap.size w w':=by
 have hu45:=Try.underlying45
 have HR0_1:=zz hr0_1
 have HC0_1:=zz hc0_1
 clear hr0_1 hc0_1
 have HR0_2:=zz hr0_2
 have HC0_2:=zz hc0_2
 clear hr0_2 hc0_2
 have HR0_3:=zz hr0_3
 have HC0_3:=zz hc0_3
 clear hr0_3 hc0_3
 have HB:=zz (Below.refl w.heap.size w)
 have H:(if a0_0=true then (spec_l05Bytes.j0 k (⟨#[108]⟩:ByteArray) a0_0 l0_1 l0_2 l0_3) else (spec_l05Bytes.j0 k (⟨#[98]⟩:ByteArray) a0_0 l0_1 l0_2 l0_3))=some r:=h
 clear h
 have HC2:=zz H
 clear H
 go_enter Try.func107,Try.ntmps107
 go_upto_if 6 with (first|((with_reducible refine zm (N:=1) rfl ?_);refine zq ?hg (N:=1) ?hd (cs:= #[.bool a0_0,.slice A0_1 l0_1.length c0_1,.slice A0_2 l0_2.length c0_2,.slice A0_3 l0_3.length c0_3]) (t:=45) ?hr ?_;(case hd=>rfl);(case hg=>rfl);(case hr=>first|(go_simp;done)|(go_simp;rfl));intro gb247 hg w3 hbox hb;have n0_:=zz (ze zq2 hb);have n1_:=zz (hbox);have n2_:=zz ((by rw [hg];exact (zc zq2):w.heap.size≤gb247));have n3_:=zz ((by rw [hg];exact (zc zq2):w.heap.size≤gb247));clear HB;have HB:=n0_;have BK247:=n1_;have GW247:=n2_;have GE247:=n3_;clear n0_ n1_ n2_ n3_;clear hb hbox hg;have hcz4_0:w3.cell? ⟨gb247,0,none⟩=some (.bool a0_0):=(zb BK247.out 0).trans rfl;have hcz4_1:w3.cell? ⟨gb247,1,none⟩=some (.slice A0_1 l0_1.length c0_1):=(zb BK247.out 1).trans rfl;have hcz4_2:w3.cell? ⟨gb247,2,none⟩=some (.slice A0_2 l0_2.length c0_2):=(zb BK247.out 2).trans rfl;have hcz4_3:w3.cell? ⟨gb247,3,none⟩=some (.slice A0_3 l0_3.length c0_3):=(zb BK247.out 3).trans rfl;have hfz4_0:=za BK247.out 0;have hfz4_1:=za BK247.out 1;have hfz4_2:=za BK247.out 2;have hfz4_3:=za BK247.out 3))
 (try simp only [Act.put,List.setIfInBounds_toArray,List.set_cons_zero,List.set_cons_succ])
 go_cut [3] (fun v3 wc=>∃(kq:Nat) (x3_1:ByteArray),v3= .string x3_1∧Z0 (spec_l05Bytes.j0 kq x3_1 a0_0 l0_1 l0_2 l0_3=some r)∧Z0 (kq≤k)∧Z0 (wc.heap[gb247]?=some (.cells #[.bool a0_0,(.slice A0_1 l0_1.length c0_1),(.slice A0_2 l0_2.length c0_2),(.slice A0_3 l0_3.length c0_3)] 45 (0,0)))∧Z0 (Below w.heap.size w wc))
 case first=>
  have H:=HC2.out
  clear HC2
  by_cases c5:a0_0=true
  ·subst c5
   rw [if_pos rfl] at H
   have H':=zz H
   clear H
   go_wp2
   go_meet
   case rel=>exact ⟨_,((⟨#[108]⟩:ByteArray)),zq16,H',⟨by first|omega|exact Nat.le_refl _⟩,⟨by (with_reducible repeat (first|refine zf ?_ _|refine zj ?_|refine zh ?_ _));exact BK247.out⟩,⟨by repeat (first|(with_reducible first|exact HB.out|apply zg|apply zd|apply zk|refine zn ?_ GE247.out)|exact HB.out)⟩⟩
  ·replace c5:=Bool.eq_false_iff.mpr c5
   subst c5
   rw [if_neg (show ¬(false=true) by decide)] at H
   have H':=zz H
   clear H
   go_wp2
   go_meet
   case rel=>exact ⟨_,((⟨#[98]⟩:ByteArray)),zq16,H',⟨by first|omega|exact Nat.le_refl _⟩,⟨by (with_reducible repeat (first|refine zf ?_ _|refine zj ?_|refine zh ?_ _));exact BK247.out⟩,⟨by repeat (first|(with_reducible first|exact HB.out|apply zg|apply zd|apply zk|refine zn ?_ GE247.out)|exact HB.out)⟩⟩
 case rest=>
  clear HC2
  try clear c5
  try clear hcz4_0
  try clear hcz4_1
  try clear hcz4_2
  try clear hcz4_3
  try clear hfz4_0
  try clear hfz4_1
  try clear hfz4_2
  try clear hfz4_3
  obtain ⟨kq,x3_1,rfl,HA,HJ1,BK247,HB⟩:=hcut
  cases kq with
  |zero=>exact absurd HA.out (by simp [spec_l05Bytes.j0])
  |succ kj1=>
   have H:=HA.out
   clear HA
   simp only [spec_l05Bytes.j0] at H
   replace H:=Option.bind_eq_some_iff.mp H
   obtain ⟨t248,A60,H⟩:=H
   replace H:(if x3_1.size+t248.size≤9223372036854775807 then (spec_l05Bytes.l0 kj1 (x3_1++t248) 0 a0_0 l0_1 l0_2 l0_3) else (none))=some r:=H
   have A6:=zz A60
   clear A60
   by_cases c7:x3_1.size+t248.size≤9223372036854775807
   ·rw [if_pos c7] at H
    have c7b0:=eq_true c7
    have c7b1:=decide_eq_true c7
    try have c7b2:(9223372036854775807<x3_1.size+t248.size)=False:=eq_false (Nat.not_lt.2 c7)
    have H':=zz H
    clear H
    have hcz8_0:wc.cell? ⟨gb247,0,none⟩=some (.bool a0_0):=(zb BK247.out 0).trans rfl
    have hcz8_1:wc.cell? ⟨gb247,1,none⟩=some (.slice A0_1 l0_1.length c0_1):=(zb BK247.out 1).trans rfl
    have hcz8_2:wc.cell? ⟨gb247,2,none⟩=some (.slice A0_2 l0_2.length c0_2):=(zb BK247.out 2).trans rfl
    have hcz8_3:wc.cell? ⟨gb247,3,none⟩=some (.slice A0_3 l0_3.length c0_3):=(zb BK247.out 3).trans rfl
    have hfz8_0:=za BK247.out 0
    have hfz8_1:=za BK247.out 1
    have hfz8_2:=za BK247.out 2
    have hfz8_3:=za BK247.out 3
    go_wp2_with (first|((with_reducible refine zo (f:=139) rfl ?_);refine zw (some 11) rfl rfl Try.func139 zq15 rfl #[.int .i64 (l0_1.length:Int)] rfl zq4 ?_;(with_reducible refine (spec_l01Var.calls kj1 (l0_1.length:Int) t248 _ A6.out).mono ?_);rintro e w9 ⟨rfl,hb⟩;refine ⟨_,rfl,?_⟩;have n0_:=zz (zi (g:=gb247) (o:= .cells #[.bool a0_0,.slice A0_1 l0_1.length c0_1,.slice A0_2 l0_2.length c0_2,.slice A0_3 l0_3.length c0_3] 45 (0,0)) (zq0 BK247.out) hb);have n1_:=zz (ze (zq3 GE247.out) hb);clear BK247;clear HB;have BK247:=n0_;have HB:=n1_;clear n0_ n1_;(try clear hb);(try clear hb2);(try clear hk);(try clear hi)))
    go_loopg [3,4] kj1 (fun kq v3 v4 w'=>∃(x3_2:ByteArray) (x4_2:Int),v3= .string x3_2∧v4= .int .i64 x4_2∧Z0 (spec_l05Bytes.l0 kq x3_2 x4_2 a0_0 l0_1 l0_2 l0_3=some r)∧Z0 (kq≤kj1)∧Z0 (w'.heap[gb247]?=some (.cells #[.bool a0_0,(.slice A0_1 l0_1.length c0_1),(.slice A0_2 l0_2.length c0_2),(.slice A0_3 l0_3.length c0_3)] 45 (0,0)))∧Z0 (Below w.heap.size w w'))
    case atStart=>exact ⟨(x3_1++t248),(0),zq16,zq16,H',⟨Nat.le_refl _⟩,⟨by (with_reducible repeat (first|refine zf ?_ _|refine zj ?_|refine zh ?_ _));exact BK247.out⟩,⟨by repeat (first|(with_reducible first|exact HB.out|apply zg|apply zd|apply zk|refine zn ?_ GE247.out)|exact HB.out)⟩⟩
    case round=>
     clear H'
     try clear c5
     try clear c7
     try clear c7b0
     try clear c7b1
     try clear c7b2
     try clear hcz4_0
     try clear hcz4_1
     try clear hcz4_2
     try clear hcz4_3
     try clear hcz8_0
     try clear hcz8_1
     try clear hcz8_2
     try clear hcz8_3
     try clear hfz4_0
     try clear hfz4_1
     try clear hfz4_2
     try clear hfz4_3
     try clear hfz8_0
     try clear hfz8_1
     try clear hfz8_2
     try clear hfz8_3
     obtain ⟨x3_2,x4_2,rfl,rfl,HA,HK2,BK247,HB⟩:=hrel
     cases gk with
     |zero=>exact absurd HA.out (by simp [spec_l05Bytes.l0])
     |succ k2=>
      have H:=HA.out
      clear HA
      simp only [spec_l05Bytes.l0] at H
      by_cases c10:x4_2<(l0_1.length:Int)
      ·rw [if_pos c10] at H
       have c10b0:=decide_eq_true c10
       clear c10
       by_cases c11:0≤x4_2
       ·rw [if_pos c11] at H
        have c11b0:=decide_eq_true c11
        clear c11
        replace H:=Option.bind_eq_some_iff.mp H
        obtain ⟨t250,A120,H⟩:=H
        replace H:(if x3_2.size+t250.size≤9223372036854775807 then (if a0_0=true then (if x4_2<(l0_2.length:Int) then ((spec_l04Short.f k2 (zpa ByteArray.empty l0_2 x4_2)).bind fun t252=>(if (x3_2++t250).size+t252.size≤9223372036854775807 then (spec_l05Bytes.l0 k2 ((x3_2++t250)++t252) (wrap64 (x4_2+1)) a0_0 l0_1 l0_2 l0_3) else (none))) else (none)) else (if x4_2<(l0_3.length:Int) then ((spec_l01Var.f k2 (rd l0_3 x4_2)).bind fun t254=>(if (x3_2++t250).size+t254.size≤9223372036854775807 then (spec_l05Bytes.l0 k2 ((x3_2++t250)++t254) (wrap64 (x4_2+1)) a0_0 l0_1 l0_2 l0_3) else (none))) else (none))) else (none))=some r:=H
        have A12:=zz A120
        clear A120
        by_cases c13:x3_2.size+t250.size≤9223372036854775807
        ·rw [if_pos c13] at H
         have c13b0:=eq_true c13
         have c13b1:=decide_eq_true c13
         try have c13b2:(9223372036854775807<x3_2.size+t250.size)=False:=eq_false (Nat.not_lt.2 c13)
         by_cases c14:a0_0=true
         ·subst c14
          rw [if_pos rfl] at H
          by_cases c15:x4_2<(l0_2.length:Int)
          ·rw [if_pos c15] at H
           have c15b0:=decide_eq_true c15
           clear c15
           replace H:=Option.bind_eq_some_iff.mp H
           obtain ⟨t252,A160,H⟩:=H
           replace H:(if (x3_2++t250).size+t252.size≤9223372036854775807 then (spec_l05Bytes.l0 k2 ((x3_2++t250)++t252) (wrap64 (x4_2+1)) true l0_1 l0_2 l0_3) else (none))=some r:=H
           have A16:=zz A160
           clear A160
           by_cases c17:(x3_2++t250).size+t252.size≤9223372036854775807
           ·rw [if_pos c17] at H
            have c17b0:=eq_true c17
            have c17b1:=decide_eq_true c17
            try (have c17z1:=c17b1;simp only [ByteArray.size_append] at c17z1)
            try (have c17y1:=c17b1;simp only [ByteArray.size_append,Int.natCast_add] at c17y1)
            try have c17b2:(9223372036854775807<(x3_2++t250).size+t252.size)=False:=eq_false (Nat.not_lt.2 c17)
            try (have c17b3:=c17b2;simp only [ByteArray.size_append] at c17b3)
            have H':=zz H
            clear H
            have hcz18_0:wr.cell? ⟨gb247,0,none⟩=some (.bool true):=(zb BK247.out 0).trans rfl
            have hcz18_1:wr.cell? ⟨gb247,1,none⟩=some (.slice A0_1 l0_1.length c0_1):=(zb BK247.out 1).trans rfl
            have hcz18_2:wr.cell? ⟨gb247,2,none⟩=some (.slice A0_2 l0_2.length c0_2):=(zb BK247.out 2).trans rfl
            have hcz18_3:wr.cell? ⟨gb247,3,none⟩=some (.slice A0_3 l0_3.length c0_3):=(zb BK247.out 3).trans rfl
            have hfz18_0:=za BK247.out 0
            have hfz18_1:=za BK247.out 1
            have hfz18_2:=za BK247.out 2
            have hfz18_3:=za BK247.out 3
            have p249:0≤(x4_2:Int):=of_decide_eq_true zq24
            have q249:x4_2<(l0_1.length:Int):=of_decide_eq_true zq24
            obtain ⟨ad249,e249,hx249_0⟩:=Kd.at_string HR0_1.out x4_2 p249 q249
            cases e249
            replace hx249_0:=(HB.out.cell (World.block_lt_of_cell? w _ hx249_0)).trans hx249_0
            replace p249:=eq_true p249
            replace q249:=eq_true q249
            go_wp2_with (first|((with_reducible refine zo (f:=149) rfl ?_);refine zw (some 26) rfl rfl Try.func149 zq15 rfl #[.string (zpa ByteArray.empty l0_1 x4_2)] rfl zq4 ?_;(with_reducible refine (spec_l04Short.calls k2 (zpa ByteArray.empty l0_1 x4_2) t250 _ A12.out).mono ?_);rintro e w19 ⟨rfl,hb⟩;refine ⟨_,rfl,?_⟩;have n0_:=zz (zi (g:=gb247) (o:= .cells #[.bool true,.slice (some ad249) l0_1.length c0_1,.slice A0_2 l0_2.length c0_2,.slice A0_3 l0_3.length c0_3] 45 (0,0)) (zq0 BK247.out) hb);have n1_:=zz (ze (zq3 GE247.out) hb);clear BK247;clear HB;have BK247:=n0_;have HB:=n1_;clear n0_ n1_;(try clear hb);(try clear hb2);(try clear hk);(try clear hi);have hcz20_0:w19.cell? ⟨gb247,0,none⟩=some (.bool true):=(zb BK247.out 0).trans rfl;have hcz20_1:w19.cell? ⟨gb247,1,none⟩=some (.slice (some ad249) l0_1.length c0_1):=(zb BK247.out 1).trans rfl;have hcz20_2:w19.cell? ⟨gb247,2,none⟩=some (.slice A0_2 l0_2.length c0_2):=(zb BK247.out 2).trans rfl;have hcz20_3:w19.cell? ⟨gb247,3,none⟩=some (.slice A0_3 l0_3.length c0_3):=(zb BK247.out 3).trans rfl;have hfz20_0:=za BK247.out 0;have hfz20_1:=za BK247.out 1;have hfz20_2:=za BK247.out 2;have hfz20_3:=za BK247.out 3;have p251:0≤(x4_2:Int):=of_decide_eq_true zq24;have q251:x4_2<(l0_2.length:Int):=of_decide_eq_true zq24;obtain ⟨ad251,e251,hx251_0⟩:=Kd.at_string HR0_2.out x4_2 p251 q251;cases e251;replace hx251_0:=(HB.out.cell (World.block_lt_of_cell? w _ hx251_0)).trans hx251_0;replace p251:=eq_true p251;replace q251:=eq_true q251)|((with_reducible refine zo (f:=149) rfl ?_);refine zw (some 36) rfl rfl Try.func149 zq15 rfl #[.string (zpa ByteArray.empty l0_2 x4_2)] rfl zq4 ?_;(with_reducible refine (spec_l04Short.calls k2 (zpa ByteArray.empty l0_2 x4_2) t252 _ A16.out).mono ?_);rintro e w21 ⟨rfl,hb⟩;refine ⟨_,rfl,?_⟩;have n0_:=zz (zi (g:=gb247) (o:= .cells #[.bool true,.slice (some ad249) l0_1.length c0_1,.slice (some ad251) l0_2.length c0_2,.slice A0_3 l0_3.length c0_3] 45 (0,0)) (zq0 BK247.out) hb);have n1_:=zz (ze (zq3 GE247.out) hb);clear BK247;clear HB;have BK247:=n0_;have HB:=n1_;clear n0_ n1_;(try clear hb);(try clear hb2);(try clear hk);(try clear hi)))
            go_roundg k2
            case measure=>have:=HJ1.out;have:=HK2.out;omega
            case rel=>exact ⟨((x3_2++t250)++t252),(wrap64 (x4_2+1)),zq16,zq16,H',⟨by have:=HJ1.out;have:=HK2.out;omega⟩,⟨by (with_reducible repeat (first|refine zf ?_ _|refine zj ?_|refine zh ?_ _));exact BK247.out⟩,⟨by repeat (first|(with_reducible first|exact HB.out|apply zg|apply zd|apply zk|refine zn ?_ GE247.out)|exact HB.out)⟩⟩
           ·rw [if_neg c17] at H
            exact absurd H zq52
          ·rw [if_neg c15] at H
           exact absurd H zq52
         ·replace c14:=Bool.eq_false_iff.mpr c14
          subst c14
          rw [if_neg (show ¬(false=true) by decide)] at H
          by_cases c22:x4_2<(l0_3.length:Int)
          ·rw [if_pos c22] at H
           have c22b0:=decide_eq_true c22
           clear c22
           replace H:=Option.bind_eq_some_iff.mp H
           obtain ⟨t254,A230,H⟩:=H
           replace H:(if (x3_2++t250).size+t254.size≤9223372036854775807 then (spec_l05Bytes.l0 k2 ((x3_2++t250)++t254) (wrap64 (x4_2+1)) false l0_1 l0_2 l0_3) else (none))=some r:=H
           have A23:=zz A230
           clear A230
           by_cases c24:(x3_2++t250).size+t254.size≤9223372036854775807
           ·rw [if_pos c24] at H
            have c24b0:=eq_true c24
            have c24b1:=decide_eq_true c24
            try (have c24z1:=c24b1;simp only [ByteArray.size_append] at c24z1)
            try (have c24y1:=c24b1;simp only [ByteArray.size_append,Int.natCast_add] at c24y1)
            try have c24b2:(9223372036854775807<(x3_2++t250).size+t254.size)=False:=eq_false (Nat.not_lt.2 c24)
            try (have c24b3:=c24b2;simp only [ByteArray.size_append] at c24b3)
            have H':=zz H
            clear H
            have hcz25_0:wr.cell? ⟨gb247,0,none⟩=some (.bool false):=(zb BK247.out 0).trans rfl
            have hcz25_1:wr.cell? ⟨gb247,1,none⟩=some (.slice A0_1 l0_1.length c0_1):=(zb BK247.out 1).trans rfl
            have hcz25_2:wr.cell? ⟨gb247,2,none⟩=some (.slice A0_2 l0_2.length c0_2):=(zb BK247.out 2).trans rfl
            have hcz25_3:wr.cell? ⟨gb247,3,none⟩=some (.slice A0_3 l0_3.length c0_3):=(zb BK247.out 3).trans rfl
            have hfz25_0:=za BK247.out 0
            have hfz25_1:=za BK247.out 1
            have hfz25_2:=za BK247.out 2
            have hfz25_3:=za BK247.out 3
            have p249:0≤(x4_2:Int):=of_decide_eq_true zq24
            have q249:x4_2<(l0_1.length:Int):=of_decide_eq_true zq24
            obtain ⟨ad249,e249,hx249_0⟩:=Kd.at_string HR0_1.out x4_2 p249 q249
            cases e249
            replace hx249_0:=(HB.out.cell (World.block_lt_of_cell? w _ hx249_0)).trans hx249_0
            replace p249:=eq_true p249
            replace q249:=eq_true q249
            go_wp2_with (first|((with_reducible refine zo (f:=149) rfl ?_);refine zw (some 26) rfl rfl Try.func149 zq15 rfl #[.string (zpa ByteArray.empty l0_1 x4_2)] rfl zq4 ?_;(with_reducible refine (spec_l04Short.calls k2 (zpa ByteArray.empty l0_1 x4_2) t250 _ A12.out).mono ?_);rintro e w26 ⟨rfl,hb⟩;refine ⟨_,rfl,?_⟩;have n0_:=zz (zi (g:=gb247) (o:= .cells #[.bool false,.slice (some ad249) l0_1.length c0_1,.slice A0_2 l0_2.length c0_2,.slice A0_3 l0_3.length c0_3] 45 (0,0)) (zq0 BK247.out) hb);have n1_:=zz (ze (zq3 GE247.out) hb);clear BK247;clear HB;have BK247:=n0_;have HB:=n1_;clear n0_ n1_;(try clear hb);(try clear hb2);(try clear hk);(try clear hi);have hcz27_0:w26.cell? ⟨gb247,0,none⟩=some (.bool false):=(zb BK247.out 0).trans rfl;have hcz27_1:w26.cell? ⟨gb247,1,none⟩=some (.slice (some ad249) l0_1.length c0_1):=(zb BK247.out 1).trans rfl;have hcz27_2:w26.cell? ⟨gb247,2,none⟩=some (.slice A0_2 l0_2.length c0_2):=(zb BK247.out 2).trans rfl;have hcz27_3:w26.cell? ⟨gb247,3,none⟩=some (.slice A0_3 l0_3.length c0_3):=(zb BK247.out 3).trans rfl;have hfz27_0:=za BK247.out 0;have hfz27_1:=za BK247.out 1;have hfz27_2:=za BK247.out 2;have hfz27_3:=za BK247.out 3;have p253:0≤(x4_2:Int):=of_decide_eq_true zq24;have q253:x4_2<(l0_3.length:Int):=of_decide_eq_true zq24;obtain ⟨ad253,e253,hx253_0⟩:=Kd.at_int HR0_3.out x4_2 p253 q253;cases e253;replace hx253_0:=(HB.out.cell (World.block_lt_of_cell? w _ hx253_0)).trans hx253_0;replace p253:=eq_true p253;replace q253:=eq_true q253)|((with_reducible refine zo (f:=139) rfl ?_);refine zw (some 44) rfl rfl Try.func139 zq15 rfl #[.int .i64 (rd l0_3 x4_2)] rfl zq4 ?_;(with_reducible refine (spec_l01Var.calls k2 (rd l0_3 x4_2) t254 _ A23.out).mono ?_);rintro e w28 ⟨rfl,hb⟩;refine ⟨_,rfl,?_⟩;have n0_:=zz (zi (g:=gb247) (o:= .cells #[.bool false,.slice (some ad249) l0_1.length c0_1,.slice A0_2 l0_2.length c0_2,.slice (some ad253) l0_3.length c0_3] 45 (0,0)) (zq0 BK247.out) hb);have n1_:=zz (ze (zq3 GE247.out) hb);clear BK247;clear HB;have BK247:=n0_;have HB:=n1_;clear n0_ n1_;(try clear hb);(try clear hb2);(try clear hk);(try clear hi)))
            go_roundg k2
            case measure=>have:=HJ1.out;have:=HK2.out;omega
            case rel=>exact ⟨((x3_2++t250)++t254),(wrap64 (x4_2+1)),zq16,zq16,H',⟨by have:=HJ1.out;have:=HK2.out;omega⟩,⟨by (with_reducible repeat (first|refine zf ?_ _|refine zj ?_|refine zh ?_ _));exact BK247.out⟩,⟨by repeat (first|(with_reducible first|exact HB.out|apply zg|apply zd|apply zk|refine zn ?_ GE247.out)|exact HB.out)⟩⟩
           ·rw [if_neg c24] at H
            exact absurd H zq52
          ·rw [if_neg c22] at H
           exact absurd H zq52
        ·rw [if_neg c13] at H
         exact absurd H zq52
       ·rw [if_neg c11] at H
        exact absurd H zq52
      ·rw [if_neg c10] at H
       have c10b0:=decide_eq_false c10
       clear c10
       obtain rfl:=Option.some.inj H
       have hcz29_0:wr.cell? ⟨gb247,0,none⟩=some (.bool a0_0):=(zb BK247.out 0).trans rfl
       have hcz29_1:wr.cell? ⟨gb247,1,none⟩=some (.slice A0_1 l0_1.length c0_1):=(zb BK247.out 1).trans rfl
       have hcz29_2:wr.cell? ⟨gb247,2,none⟩=some (.slice A0_2 l0_2.length c0_2):=(zb BK247.out 2).trans rfl
       have hcz29_3:wr.cell? ⟨gb247,3,none⟩=some (.slice A0_3 l0_3.length c0_3):=(zb BK247.out 3).trans rfl
       have hfz29_0:=za BK247.out 0
       have hfz29_1:=za BK247.out 1
       have hfz29_2:=za BK247.out 2
       have hfz29_3:=za BK247.out 3
       go_wp2
       go_ret
       exact ⟨zq10,by repeat (first|(with_reducible first|exact HB.out|apply zg|apply zd|apply zk|refine zn ?_ GE247.out)|exact HB.out)⟩
   ·rw [if_neg c7] at H
    exact absurd H zq52
def spec_NodeText.f (k:Nat) (a0_0:Bool) (l0_1:List ByteArray) (l0_2:List ByteArray) (l0_3:List Int):Option (ByteArray×Bool):=(spec_NodeOk.f k a0_0 l0_1 l0_2 l0_3).bind fun t256=>(if t256=true then ((spec_l05Bytes.f k a0_0 l0_1 l0_2 l0_3).bind fun t257=>((spec_Sealed.f k t257).bind fun bt258=>(some (bt258.1,bt258.2)))) else (some ((⟨#[]⟩:ByteArray),false)))
theorem spec_NodeText.calls (k:Nat) (a0_0:Bool) (A0_1:Option Addr) (c0_1:Nat) (l0_1:List ByteArray) (A0_2:Option Addr) (c0_2:Nat) (l0_2:List ByteArray) (A0_3:Option Addr) (c0_3:Nat) (l0_3:List Int) (r1:ByteArray) (r2:Bool) (w:World) (hr0_1:Kd.C Kd.string w A0_1 l0_1.length l0_1) (hc0_1:l0_1.length≤c0_1) (hr0_2:Kd.C Kd.string w A0_2 l0_2.length l0_2) (hc0_2:l0_2.length≤c0_2) (hr0_3:Kd.C (Kd.int .i64) w A0_3 l0_3.length l0_3) (hc0_3:l0_3.length≤c0_3) (h:spec_NodeText.f k a0_0 l0_1 l0_2 l0_3=some (r1,r2)):
  Calls Try.prog 55 #[.agg #[.bool a0_0,.slice A0_1 l0_1.length c0_1,.slice A0_2 l0_2.length c0_2,.slice A0_3 l0_3.length c0_3]] w fun e w'=>e= .returned (.tuple #[.string r1,.bool r2])∧Below w.heap.size w w':=by
 have hu45:=Try.underlying45
 have HR0_1:=zz hr0_1
 have HC0_1:=zz hc0_1
 clear hr0_1 hc0_1
 have HR0_2:=zz hr0_2
 have HC0_2:=zz hc0_2
 clear hr0_2 hc0_2
 have HR0_3:=zz hr0_3
 have HC0_3:=zz hc0_3
 clear hr0_3 hc0_3
 have HB:=zz (Below.refl w.heap.size w)
 have H:((spec_NodeOk.f k a0_0 l0_1 l0_2 l0_3).bind fun t256=>(if t256=true then ((spec_l05Bytes.f k a0_0 l0_1 l0_2 l0_3).bind fun t257=>((spec_Sealed.f k t257).bind fun bt258=>(some (bt258.1,bt258.2)))) else (some ((⟨#[]⟩:ByteArray),false))))=some (r1,r2):=h
 clear h
 replace H:=Option.bind_eq_some_iff.mp H
 obtain ⟨t256,A20,H⟩:=H
 replace H:(if t256=true then ((spec_l05Bytes.f k a0_0 l0_1 l0_2 l0_3).bind fun t257=>((spec_Sealed.f k t257).bind fun bt258=>(some (bt258.1,bt258.2)))) else (some ((⟨#[]⟩:ByteArray),false)))=some (r1,r2):=H
 have A2:=zz A20
 clear A20
 by_cases c3:t256=true
 ·subst c3
  rw [if_pos rfl] at H
  replace H:=Option.bind_eq_some_iff.mp H
  obtain ⟨t257,A40,H⟩:=H
  replace H:((spec_Sealed.f k t257).bind fun bt258=>(some (bt258.1,bt258.2)))=some (r1,r2):=H
  have A4:=zz A40
  clear A40
  replace H:=Option.bind_eq_some_iff.mp H
  obtain ⟨⟨t258,t259⟩,A50,H⟩:=H
  replace H:(some (t258,t259))=some (r1,r2):=H
  have A5:=zz A50
  clear A50
  simp only [Option.some.injEq,Prod.mk.injEq] at H
  obtain ⟨rfl,rfl⟩:=H
  go_enter Try.func55,Try.ntmps55
  go_wp2_with (first|((with_reducible refine zm (N:=1) rfl ?_);refine zq ?hg (N:=1) ?hd (cs:= #[.bool a0_0,.slice A0_1 l0_1.length c0_1,.slice A0_2 l0_2.length c0_2,.slice A0_3 l0_3.length c0_3]) (t:=45) ?hr ?_;(case hd=>rfl);(case hg=>rfl);(case hr=>first|(go_simp;done)|(go_simp;rfl));intro gb255 hg w6 hbox hb;have n0_:=zz (ze zq2 hb);have n1_:=zz (hbox);have n2_:=zz ((by rw [hg];exact (zc zq2):w.heap.size≤gb255));have n3_:=zz ((by rw [hg];exact (zc zq2):w.heap.size≤gb255));clear HB;have HB:=n0_;have BK255:=n1_;have GW255:=n2_;have GE255:=n3_;clear n0_ n1_ n2_ n3_;clear hb hbox hg;have hcz7_0:w6.cell? ⟨gb255,0,none⟩=some (.bool a0_0):=(zb BK255.out 0).trans rfl;have hcz7_1:w6.cell? ⟨gb255,1,none⟩=some (.slice A0_1 l0_1.length c0_1):=(zb BK255.out 1).trans rfl;have hcz7_2:w6.cell? ⟨gb255,2,none⟩=some (.slice A0_2 l0_2.length c0_2):=(zb BK255.out 2).trans rfl;have hcz7_3:w6.cell? ⟨gb255,3,none⟩=some (.slice A0_3 l0_3.length c0_3):=(zb BK255.out 3).trans rfl;have hfz7_0:=za BK255.out 0;have hfz7_1:=za BK255.out 1;have hfz7_2:=za BK255.out 2;have hfz7_3:=za BK255.out 3)|((with_reducible refine zo (f:=105) rfl ?_);refine zw (some 5) rfl rfl Try.func105 zq15 rfl #[.agg #[.bool a0_0,.slice A0_1 l0_1.length c0_1,.slice A0_2 l0_2.length c0_2,.slice A0_3 l0_3.length c0_3]] rfl zq4 ?_;(with_reducible refine (spec_NodeOk.calls k a0_0 _ _ l0_1 _ _ l0_2 _ _ l0_3 true _ ?side1 ?side2 ?side3 ?side4 ?side5 ?side6 A2.out).mono ?_);(case side1=>repeat (first|exact (Kd.C_below HR0_1.out HB.out)|(with_reducible refine Kd.C_alloc ?_ _)|(with_reducible refine Kd.C_drewN ?_ _)|(with_reducible refine Kd.C_drew ?_)));(case side2=>exact HC0_1.out);(case side3=>repeat (first|exact (Kd.C_below HR0_2.out HB.out)|(with_reducible refine Kd.C_alloc ?_ _)|(with_reducible refine Kd.C_drewN ?_ _)|(with_reducible refine Kd.C_drew ?_)));(case side4=>exact HC0_2.out);(case side5=>repeat (first|exact (Kd.C_below HR0_3.out HB.out)|(with_reducible refine Kd.C_alloc ?_ _)|(with_reducible refine Kd.C_drewN ?_ _)|(with_reducible refine Kd.C_drew ?_)));(case side6=>exact HC0_3.out);rintro e w8 ⟨rfl,hb⟩;refine ⟨_,rfl,?_⟩;have n0_:=zz (zi (g:=gb255) (o:= .cells #[.bool a0_0,.slice A0_1 l0_1.length c0_1,.slice A0_2 l0_2.length c0_2,.slice A0_3 l0_3.length c0_3] 45 (0,0)) (zq0 BK255.out) hb);have n1_:=zz (ze (zq3 GE255.out) hb);clear BK255;clear HB;have BK255:=n0_;have HB:=n1_;clear n0_ n1_;(try clear hb);(try clear hb2);(try clear hk);(try clear hi);have hcz9_0:w8.cell? ⟨gb255,0,none⟩=some (.bool a0_0):=(zb BK255.out 0).trans rfl;have hcz9_1:w8.cell? ⟨gb255,1,none⟩=some (.slice A0_1 l0_1.length c0_1):=(zb BK255.out 1).trans rfl;have hcz9_2:w8.cell? ⟨gb255,2,none⟩=some (.slice A0_2 l0_2.length c0_2):=(zb BK255.out 2).trans rfl;have hcz9_3:w8.cell? ⟨gb255,3,none⟩=some (.slice A0_3 l0_3.length c0_3):=(zb BK255.out 3).trans rfl;have hfz9_0:=za BK255.out 0;have hfz9_1:=za BK255.out 1;have hfz9_2:=za BK255.out 2;have hfz9_3:=za BK255.out 3)|((with_reducible refine zo (f:=107) rfl ?_);refine zw (some 8) rfl rfl Try.func107 zq15 rfl #[.agg #[.bool a0_0,.slice A0_1 l0_1.length c0_1,.slice A0_2 l0_2.length c0_2,.slice A0_3 l0_3.length c0_3]] rfl zq4 ?_;(with_reducible refine (spec_l05Bytes.calls k a0_0 _ _ l0_1 _ _ l0_2 _ _ l0_3 t257 _ ?side1 ?side2 ?side3 ?side4 ?side5 ?side6 A4.out).mono ?_);(case side1=>repeat (first|exact (Kd.C_below HR0_1.out HB.out)|(with_reducible refine Kd.C_alloc ?_ _)|(with_reducible refine Kd.C_drewN ?_ _)|(with_reducible refine Kd.C_drew ?_)));(case side2=>exact HC0_1.out);(case side3=>repeat (first|exact (Kd.C_below HR0_2.out HB.out)|(with_reducible refine Kd.C_alloc ?_ _)|(with_reducible refine Kd.C_drewN ?_ _)|(with_reducible refine Kd.C_drew ?_)));(case side4=>exact HC0_2.out);(case side5=>repeat (first|exact (Kd.C_below HR0_3.out HB.out)|(with_reducible refine Kd.C_alloc ?_ _)|(with_reducible refine Kd.C_drewN ?_ _)|(with_reducible refine Kd.C_drew ?_)));(case side6=>exact HC0_3.out);rintro e w10 ⟨rfl,hb⟩;refine ⟨_,rfl,?_⟩;have n0_:=zz (zi (g:=gb255) (o:= .cells #[.bool a0_0,.slice A0_1 l0_1.length c0_1,.slice A0_2 l0_2.length c0_2,.slice A0_3 l0_3.length c0_3] 45 (0,0)) (zq0 BK255.out) hb);have n1_:=zz (ze (zq3 GE255.out) hb);clear BK255;clear HB;have BK255:=n0_;have HB:=n1_;clear n0_ n1_;(try clear hb);(try clear hb2);(try clear hk);(try clear hi))|((with_reducible refine zo (f:=106) rfl ?_);refine zw (some 9) rfl rfl Try.func106 zq15 rfl #[.string t257] rfl zq4 ?_;(with_reducible refine (spec_Sealed.calls k t257 t258 t259 _ A5.out).mono ?_);rintro e w11 ⟨rfl,hb⟩;refine ⟨_,rfl,?_⟩;have n0_:=zz (zi (g:=gb255) (o:= .cells #[.bool a0_0,.slice A0_1 l0_1.length c0_1,.slice A0_2 l0_2.length c0_2,.slice A0_3 l0_3.length c0_3] 45 (0,0)) (zq0 BK255.out) hb);have n1_:=zz (ze (zq3 GE255.out) hb);clear BK255;clear HB;have BK255:=n0_;have HB:=n1_;clear n0_ n1_;(try clear hb);(try clear hb2);(try clear hk);(try clear hi)))
  go_ret2
  exact ⟨zq10,by repeat (first|(with_reducible first|exact HB.out|apply zg|apply zd|apply zk|refine zn ?_ GE255.out)|exact HB.out)⟩
 ·replace c3:=Bool.eq_false_iff.mpr c3
  subst c3
  rw [if_neg (show ¬(false=true) by decide)] at H
  simp only [Option.some.injEq,Prod.mk.injEq] at H
  obtain ⟨rfl,rfl⟩:=H
  go_enter Try.func55,Try.ntmps55
  go_wp2_with (first|((with_reducible refine zm (N:=1) rfl ?_);refine zq ?hg (N:=1) ?hd (cs:= #[.bool a0_0,.slice A0_1 l0_1.length c0_1,.slice A0_2 l0_2.length c0_2,.slice A0_3 l0_3.length c0_3]) (t:=45) ?hr ?_;(case hd=>rfl);(case hg=>rfl);(case hr=>first|(go_simp;done)|(go_simp;rfl));intro gb255 hg w12 hbox hb;have n0_:=zz (ze zq2 hb);have n1_:=zz (hbox);have n2_:=zz ((by rw [hg];exact (zc zq2):w.heap.size≤gb255));have n3_:=zz ((by rw [hg];exact (zc zq2):w.heap.size≤gb255));clear HB;have HB:=n0_;have BK255:=n1_;have GW255:=n2_;have GE255:=n3_;clear n0_ n1_ n2_ n3_;clear hb hbox hg;have hcz13_0:w12.cell? ⟨gb255,0,none⟩=some (.bool a0_0):=(zb BK255.out 0).trans rfl;have hcz13_1:w12.cell? ⟨gb255,1,none⟩=some (.slice A0_1 l0_1.length c0_1):=(zb BK255.out 1).trans rfl;have hcz13_2:w12.cell? ⟨gb255,2,none⟩=some (.slice A0_2 l0_2.length c0_2):=(zb BK255.out 2).trans rfl;have hcz13_3:w12.cell? ⟨gb255,3,none⟩=some (.slice A0_3 l0_3.length c0_3):=(zb BK255.out 3).trans rfl;have hfz13_0:=za BK255.out 0;have hfz13_1:=za BK255.out 1;have hfz13_2:=za BK255.out 2;have hfz13_3:=za BK255.out 3)|((with_reducible refine zo (f:=105) rfl ?_);refine zw (some 5) rfl rfl Try.func105 zq15 rfl #[.agg #[.bool a0_0,.slice A0_1 l0_1.length c0_1,.slice A0_2 l0_2.length c0_2,.slice A0_3 l0_3.length c0_3]] rfl zq4 ?_;(with_reducible refine (spec_NodeOk.calls k a0_0 _ _ l0_1 _ _ l0_2 _ _ l0_3 false _ ?side1 ?side2 ?side3 ?side4 ?side5 ?side6 A2.out).mono ?_);(case side1=>repeat (first|exact (Kd.C_below HR0_1.out HB.out)|(with_reducible refine Kd.C_alloc ?_ _)|(with_reducible refine Kd.C_drewN ?_ _)|(with_reducible refine Kd.C_drew ?_)));(case side2=>exact HC0_1.out);(case side3=>repeat (first|exact (Kd.C_below HR0_2.out HB.out)|(with_reducible refine Kd.C_alloc ?_ _)|(with_reducible refine Kd.C_drewN ?_ _)|(with_reducible refine Kd.C_drew ?_)));(case side4=>exact HC0_2.out);(case side5=>repeat (first|exact (Kd.C_below HR0_3.out HB.out)|(with_reducible refine Kd.C_alloc ?_ _)|(with_reducible refine Kd.C_drewN ?_ _)|(with_reducible refine Kd.C_drew ?_)));(case side6=>exact HC0_3.out);rintro e w14 ⟨rfl,hb⟩;refine ⟨_,rfl,?_⟩;have n0_:=zz (zi (g:=gb255) (o:= .cells #[.bool a0_0,.slice A0_1 l0_1.length c0_1,.slice A0_2 l0_2.length c0_2,.slice A0_3 l0_3.length c0_3] 45 (0,0)) (zq0 BK255.out) hb);have n1_:=zz (ze (zq3 GE255.out) hb);clear BK255;clear HB;have BK255:=n0_;have HB:=n1_;clear n0_ n1_;(try clear hb);(try clear hb2);(try clear hk);(try clear hi)))
  go_ret2
  exact ⟨zq10,by repeat (first|(with_reducible first|exact HB.out|apply zg|apply zd|apply zk|refine zn ?_ GE255.out)|exact HB.out)⟩
def impl_shortOf.f (k:Nat) (a0:ByteArray):Option (ByteArray):=(impl_varText.f k (a0.size:Int)).bind fun t376=>(if t376.size+a0.size≤9223372036854775807 then (some (t376++a0)) else (none))
theorem impl_shortOf.calls (k:Nat) (a0:ByteArray) (r:ByteArray) (w:World) (h:impl_shortOf.f k a0=some r):
  Calls Try.prog 111 #[.string a0] w fun e w'=>e= .returned (.string r)∧Below w.heap.size w w':=by
 have HB:=zz (Below.refl w.heap.size w)
 have H:((impl_varText.f k (a0.size:Int)).bind fun t376=>(if t376.size+a0.size≤9223372036854775807 then (some (t376++a0)) else (none)))=some r:=h
 clear h
 replace H:=Option.bind_eq_some_iff.mp H
 obtain ⟨t376,A20,H⟩:=H
 replace H:(if t376.size+a0.size≤9223372036854775807 then (some (t376++a0)) else (none))=some r:=H
 have A2:=zz A20
 clear A20
 by_cases c3:t376.size+a0.size≤9223372036854775807
 ·rw [if_pos c3] at H
  have c3b0:=eq_true c3
  have c3b1:=decide_eq_true c3
  try have c3b2:(9223372036854775807<t376.size+a0.size)=False:=eq_false (Nat.not_lt.2 c3)
  obtain rfl:=Option.some.inj H
  go_enter Try.func111,Try.ntmps111
  go_wp2_with (first|((with_reducible refine zo (f:=110) rfl ?_);refine zw (some 5) rfl rfl Try.func110 zq15 rfl #[.int .i64 (a0.size:Int)] rfl zq4 ?_;(with_reducible refine (impl_varText.calls k (a0.size:Int) t376 _ A2.out).mono ?_);rintro e w4 ⟨rfl,hb⟩;refine ⟨_,rfl,?_⟩;have n0_:=zz (ze zq2 hb);clear HB;have HB:=n0_;clear n0_;(try clear hb);(try clear hb2);(try clear hk);(try clear hi)))
  go_ret
  exact ⟨zq10,by repeat (first|(with_reducible first|exact HB.out|apply zg|apply zd|apply zk)|exact HB.out)⟩
 ·rw [if_neg c3] at H
  exact absurd H zq52
def impl_Sealed.f (k:Nat) (a0:ByteArray):Option (ByteArray×Bool):=if (a0.size:Int)>20000 then (some ((⟨#[]⟩:ByteArray),false)) else ((impl_seal.f k a0).bind fun t382=>(if a0.size+t382.size≤9223372036854775807 then (some (a0++t382,true)) else (none)))
theorem impl_Sealed.calls (k:Nat) (a0:ByteArray) (r1:ByteArray) (r2:Bool) (w:World) (h:impl_Sealed.f k a0=some (r1,r2)):
  Calls Try.prog 112 #[.string a0] w fun e w'=>e= .returned (.tuple #[.string r1,.bool r2])∧Below w.heap.size w w':=by
 have HB:=zz (Below.refl w.heap.size w)
 have H:(if (a0.size:Int)>20000 then (some ((⟨#[]⟩:ByteArray),false)) else ((impl_seal.f k a0).bind fun t382=>(if a0.size+t382.size≤9223372036854775807 then (some (a0++t382,true)) else (none))))=some (r1,r2):=h
 clear h
 by_cases c2:(a0.size:Int)>20000
 ·rw [if_pos c2] at H
  have c2b0:decide (20000<(a0.size:Int))=true:=decide_eq_true c2
  have c2b1:decide (20000<a0.size)=true:=decide_eq_true zq11
  clear c2
  simp only [Option.some.injEq,Prod.mk.injEq] at H
  obtain ⟨rfl,rfl⟩:=H
  go_enter Try.func112,Try.ntmps112
  go_wp2
  go_ret2
  exact ⟨zq10,by repeat (first|(with_reducible first|exact HB.out|apply zg|apply zd|apply zk)|exact HB.out)⟩
 ·rw [if_neg c2] at H
  have c2b0:decide (20000<(a0.size:Int))=false:=decide_eq_false c2
  have c2b1:decide (20000<a0.size)=false:=decide_eq_false zq11
  clear c2
  replace H:=Option.bind_eq_some_iff.mp H
  obtain ⟨t382,A30,H⟩:=H
  replace H:(if a0.size+t382.size≤9223372036854775807 then (some (a0++t382,true)) else (none))=some (r1,r2):=H
  have A3:=zz A30
  clear A30
  by_cases c4:a0.size+t382.size≤9223372036854775807
  ·rw [if_pos c4] at H
   have c4b0:=eq_true c4
   have c4b1:=decide_eq_true c4
   try have c4b2:(9223372036854775807<a0.size+t382.size)=False:=eq_false (Nat.not_lt.2 c4)
   simp only [Option.some.injEq,Prod.mk.injEq] at H
   obtain ⟨rfl,rfl⟩:=H
   go_enter Try.func112,Try.ntmps112
   go_wp2_with (first|((with_reducible refine zo (f:=145) rfl ?_);refine zw (some 9) rfl rfl Try.func145 zq15 rfl #[.string a0] rfl zq4 ?_;(with_reducible refine (impl_seal.calls k a0 t382 _ A3.out).mono ?_);rintro e w5 ⟨rfl,hb⟩;refine ⟨_,rfl,?_⟩;have n0_:=zz (ze zq2 hb);clear HB;have HB:=n0_;clear n0_;(try clear hb);(try clear hb2);(try clear hk);(try clear hi)))
   go_ret2
   exact ⟨zq10,by repeat (first|(with_reducible first|exact HB.out|apply zg|apply zd|apply zk)|exact HB.out)⟩
  ·rw [if_neg c4] at H
   exact absurd H zq52
mutual
def impl_NodeText.j0:Nat→ByteArray→Bool→List ByteArray→List ByteArray→List Int→Option (ByteArray×Bool)
 |0,_,_,_,_,_=>none
 |k+1,x4,x384000,x384001,x384002,x384003=>(impl_varText.f k (x384001.length:Int)).bind fun t385=>(if x4.size+t385.size≤9223372036854775807 then (impl_NodeText.l0 k (x4++t385) x384001 (x384001.length:Int) 0 x384000 x384001 x384002 x384003) else (none))
def impl_NodeText.l0:Nat→ByteArray→List ByteArray→Int→Int→Bool→List ByteArray→List ByteArray→List Int→Option (ByteArray×Bool)
 |0,_,_,_,_,_,_,_,_=>none
 |k+1,x4,x19,x20,x21,x384000,x384001,x384002,x384003=>if x21<x20 then (if 0≤x21 then (if x21<(x19.length:Int) then ((impl_shortOf.f k (zpa ByteArray.empty x19 x21)).bind fun t389=>(if x4.size+t389.size≤9223372036854775807 then (if x384000=true then (if x21<(x384002.length:Int) then ((impl_shortOf.f k (zpa ByteArray.empty x384002 x21)).bind fun t391=>(if (x4++t389).size+t391.size≤9223372036854775807 then (impl_NodeText.l0 k ((x4++t389)++t391) x19 x20 (wrap64 (x21+1)) x384000 x384001 x384002 x384003) else (none))) else (none)) else (if x21<(x384003.length:Int) then ((impl_varText.f k (rd x384003 x21)).bind fun t393=>(if (x4++t389).size+t393.size≤9223372036854775807 then (impl_NodeText.l0 k ((x4++t389)++t393) x19 x20 (wrap64 (x21+1)) x384000 x384001 x384002 x384003) else (none))) else (none))) else (none))) else (none)) else (none)) else ((impl_Sealed.f k x4).bind fun bt386=>(some (bt386.1,bt386.2)))
end
def impl_NodeText.f (k:Nat) (a0_0:Bool) (l0_1:List ByteArray) (l0_2:List ByteArray) (l0_3:List Int):Option (ByteArray×Bool):=(impl_NodeOk.f a0_0 l0_1 l0_2 l0_3).bind fun t384=>(if t384=true then (if a0_0=true then (impl_NodeText.j0 k (⟨#[108]⟩:ByteArray) a0_0 l0_1 l0_2 l0_3) else (impl_NodeText.j0 k (⟨#[98]⟩:ByteArray) a0_0 l0_1 l0_2 l0_3)) else (some ((⟨#[]⟩:ByteArray),false)))
theorem impl_NodeText.calls (k:Nat) (a0_0:Bool) (A0_1:Option Addr) (c0_1:Nat) (l0_1:List ByteArray) (A0_2:Option Addr) (c0_2:Nat) (l0_2:List ByteArray) (A0_3:Option Addr) (c0_3:Nat) (l0_3:List Int) (r1:ByteArray) (r2:Bool) (w:World) (hr0_1:Kd.C Kd.string w A0_1 l0_1.length l0_1) (hc0_1:l0_1.length≤c0_1) (hr0_2:Kd.C Kd.string w A0_2 l0_2.length l0_2) (hc0_2:l0_2.length≤c0_2) (hr0_3:Kd.C (Kd.int .i64) w A0_3 l0_3.length l0_3) (hc0_3:l0_3.length≤c0_3) (h:impl_NodeText.f k a0_0 l0_1 l0_2 l0_3=some (r1,r2)):
  Calls Try.prog 58 #[.agg #[.bool a0_0,.slice A0_1 l0_1.length c0_1,.slice A0_2 l0_2.length c0_2,.slice A0_3 l0_3.length c0_3]] w fun e w'=>e= .returned (.tuple #[.string r1,.bool r2])∧Below w.heap.size w w':=by
 have hu45:=Try.underlying45
 have HR0_1:=zz hr0_1
 have HC0_1:=zz hc0_1
 clear hr0_1 hc0_1
 have HR0_2:=zz hr0_2
 have HC0_2:=zz hc0_2
 clear hr0_2 hc0_2
 have HR0_3:=zz hr0_3
 have HC0_3:=zz hc0_3
 clear hr0_3 hc0_3
 have HB:=zz (Below.refl w.heap.size w)
 have H:((impl_NodeOk.f a0_0 l0_1 l0_2 l0_3).bind fun t384=>(if t384=true then (if a0_0=true then (impl_NodeText.j0 k (⟨#[108]⟩:ByteArray) a0_0 l0_1 l0_2 l0_3) else (impl_NodeText.j0 k (⟨#[98]⟩:ByteArray) a0_0 l0_1 l0_2 l0_3)) else (some ((⟨#[]⟩:ByteArray),false))))=some (r1,r2):=h
 clear h
 replace H:=Option.bind_eq_some_iff.mp H
 obtain ⟨t384,A20,H⟩:=H
 replace H:(if t384=true then (if a0_0=true then (impl_NodeText.j0 k (⟨#[108]⟩:ByteArray) a0_0 l0_1 l0_2 l0_3) else (impl_NodeText.j0 k (⟨#[98]⟩:ByteArray) a0_0 l0_1 l0_2 l0_3)) else (some ((⟨#[]⟩:ByteArray),false)))=some (r1,r2):=H
 have A2:=zz A20
 clear A20
 by_cases c3:t384=true
 ·subst c3
  rw [if_pos rfl] at H
  have HC4:=zz H
  clear H
  go_enter Try.func58,Try.ntmps58
  go_upto_if 11 with (first|((with_reducible refine zm (N:=1) rfl ?_);refine zq ?hg (N:=1) ?hd (cs:= #[.bool a0_0,.slice A0_1 l0_1.length c0_1,.slice A0_2 l0_2.length c0_2,.slice A0_3 l0_3.length c0_3]) (t:=45) ?hr ?_;(case hd=>rfl);(case hg=>rfl);(case hr=>first|(go_simp;done)|(go_simp;rfl));intro gb383 hg w5 hbox hb;have n0_:=zz (ze zq2 hb);have n1_:=zz (hbox);have n2_:=zz ((by rw [hg];exact (zc zq2):w.heap.size≤gb383));have n3_:=zz ((by rw [hg];exact (zc zq2):w.heap.size≤gb383));clear HB;have HB:=n0_;have BK383:=n1_;have GW383:=n2_;have GE383:=n3_;clear n0_ n1_ n2_ n3_;clear hb hbox hg;have hcz6_0:w5.cell? ⟨gb383,0,none⟩=some (.bool a0_0):=(zb BK383.out 0).trans rfl;have hcz6_1:w5.cell? ⟨gb383,1,none⟩=some (.slice A0_1 l0_1.length c0_1):=(zb BK383.out 1).trans rfl;have hcz6_2:w5.cell? ⟨gb383,2,none⟩=some (.slice A0_2 l0_2.length c0_2):=(zb BK383.out 2).trans rfl;have hcz6_3:w5.cell? ⟨gb383,3,none⟩=some (.slice A0_3 l0_3.length c0_3):=(zb BK383.out 3).trans rfl;have hfz6_0:=za BK383.out 0;have hfz6_1:=za BK383.out 1;have hfz6_2:=za BK383.out 2;have hfz6_3:=za BK383.out 3)|((with_reducible refine zo (f:=109) rfl ?_);refine zw (some 8) rfl rfl Try.func109 zq15 rfl #[.agg #[.bool a0_0,.slice A0_1 l0_1.length c0_1,.slice A0_2 l0_2.length c0_2,.slice A0_3 l0_3.length c0_3]] rfl zq4 ?_;(with_reducible refine (impl_NodeOk.calls a0_0 _ _ l0_1 _ _ l0_2 _ _ l0_3 true _ ?side1 ?side2 ?side3 ?side4 ?side5 ?side6 A2.out).mono ?_);(case side1=>repeat (first|exact (Kd.C_below HR0_1.out HB.out)|(with_reducible refine Kd.C_alloc ?_ _)|(with_reducible refine Kd.C_drewN ?_ _)|(with_reducible refine Kd.C_drew ?_)));(case side2=>exact HC0_1.out);(case side3=>repeat (first|exact (Kd.C_below HR0_2.out HB.out)|(with_reducible refine Kd.C_alloc ?_ _)|(with_reducible refine Kd.C_drewN ?_ _)|(with_reducible refine Kd.C_drew ?_)));(case side4=>exact HC0_2.out);(case side5=>repeat (first|exact (Kd.C_below HR0_3.out HB.out)|(with_reducible refine Kd.C_alloc ?_ _)|(with_reducible refine Kd.C_drewN ?_ _)|(with_reducible refine Kd.C_drew ?_)));(case side6=>exact HC0_3.out);rintro e w7 ⟨rfl,hb⟩;refine ⟨_,rfl,?_⟩;have n0_:=zz (zi (g:=gb383) (o:= .cells #[.bool a0_0,.slice A0_1 l0_1.length c0_1,.slice A0_2 l0_2.length c0_2,.slice A0_3 l0_3.length c0_3] 45 (0,0)) (zq0 BK383.out) hb);have n1_:=zz (ze (zq3 GE383.out) hb);clear BK383;clear HB;have BK383:=n0_;have HB:=n1_;clear n0_ n1_;(try clear hb);(try clear hb2);(try clear hk);(try clear hi);have hcz8_0:w7.cell? ⟨gb383,0,none⟩=some (.bool a0_0):=(zb BK383.out 0).trans rfl;have hcz8_1:w7.cell? ⟨gb383,1,none⟩=some (.slice A0_1 l0_1.length c0_1):=(zb BK383.out 1).trans rfl;have hcz8_2:w7.cell? ⟨gb383,2,none⟩=some (.slice A0_2 l0_2.length c0_2):=(zb BK383.out 2).trans rfl;have hcz8_3:w7.cell? ⟨gb383,3,none⟩=some (.slice A0_3 l0_3.length c0_3):=(zb BK383.out 3).trans rfl;have hfz8_0:=za BK383.out 0;have hfz8_1:=za BK383.out 1;have hfz8_2:=za BK383.out 2;have hfz8_3:=za BK383.out 3))
  (try simp only [Act.put,List.setIfInBounds_toArray,List.set_cons_zero,List.set_cons_succ])
  go_cut [4] (fun v4 wc=>∃(kq:Nat) (x4_3:ByteArray),v4= .string x4_3∧Z0 (impl_NodeText.j0 kq x4_3 a0_0 l0_1 l0_2 l0_3=some (r1,r2))∧Z0 (kq≤k)∧Z0 (wc.heap[gb383]?=some (.cells #[.bool a0_0,(.slice A0_1 l0_1.length c0_1),(.slice A0_2 l0_2.length c0_2),(.slice A0_3 l0_3.length c0_3)] 45 (0,0)))∧Z0 (Below w.heap.size w wc))
  case first=>
   have H:=HC4.out
   clear HC4
   by_cases c9:a0_0=true
   ·subst c9
    rw [if_pos rfl] at H
    have H':=zz H
    clear H
    go_wp2
    go_meet
    case rel=>exact ⟨_,((⟨#[108]⟩:ByteArray)),zq16,H',⟨by first|omega|exact Nat.le_refl _⟩,⟨by (with_reducible repeat (first|refine zf ?_ _|refine zj ?_|refine zh ?_ _));exact BK383.out⟩,⟨by repeat (first|(with_reducible first|exact HB.out|apply zg|apply zd|apply zk|refine zn ?_ GE383.out)|exact HB.out)⟩⟩
   ·replace c9:=Bool.eq_false_iff.mpr c9
    subst c9
    rw [if_neg (show ¬(false=true) by decide)] at H
    have H':=zz H
    clear H
    go_wp2
    go_meet
    case rel=>exact ⟨_,((⟨#[98]⟩:ByteArray)),zq16,H',⟨by first|omega|exact Nat.le_refl _⟩,⟨by (with_reducible repeat (first|refine zf ?_ _|refine zj ?_|refine zh ?_ _));exact BK383.out⟩,⟨by repeat (first|(with_reducible first|exact HB.out|apply zg|apply zd|apply zk|refine zn ?_ GE383.out)|exact HB.out)⟩⟩
  case rest=>
   clear HC4
   try clear c3
   try clear c9
   try clear hcz6_0
   try clear hcz6_1
   try clear hcz6_2
   try clear hcz6_3
   try clear hcz8_0
   try clear hcz8_1
   try clear hcz8_2
   try clear hcz8_3
   try clear hfz6_0
   try clear hfz6_1
   try clear hfz6_2
   try clear hfz6_3
   try clear hfz8_0
   try clear hfz8_1
   try clear hfz8_2
   try clear hfz8_3
   obtain ⟨kq,x4_3,rfl,HA,HJ3,BK383,HB⟩:=hcut
   cases kq with
   |zero=>exact absurd HA.out (by simp [impl_NodeText.j0])
   |succ kj3=>
    have H:=HA.out
    clear HA
    simp only [impl_NodeText.j0] at H
    replace H:=Option.bind_eq_some_iff.mp H
    obtain ⟨t385,A100,H⟩:=H
    replace H:(if x4_3.size+t385.size≤9223372036854775807 then (impl_NodeText.l0 kj3 (x4_3++t385) l0_1 (l0_1.length:Int) 0 a0_0 l0_1 l0_2 l0_3) else (none))=some (r1,r2):=H
    have A10:=zz A100
    clear A100
    by_cases c11:x4_3.size+t385.size≤9223372036854775807
    ·rw [if_pos c11] at H
     have c11b0:=eq_true c11
     have c11b1:=decide_eq_true c11
     try have c11b2:(9223372036854775807<x4_3.size+t385.size)=False:=eq_false (Nat.not_lt.2 c11)
     have H':=zz H
     clear H
     have hcz12_0:wc.cell? ⟨gb383,0,none⟩=some (.bool a0_0):=(zb BK383.out 0).trans rfl
     have hcz12_1:wc.cell? ⟨gb383,1,none⟩=some (.slice A0_1 l0_1.length c0_1):=(zb BK383.out 1).trans rfl
     have hcz12_2:wc.cell? ⟨gb383,2,none⟩=some (.slice A0_2 l0_2.length c0_2):=(zb BK383.out 2).trans rfl
     have hcz12_3:wc.cell? ⟨gb383,3,none⟩=some (.slice A0_3 l0_3.length c0_3):=(zb BK383.out 3).trans rfl
     have hfz12_0:=za BK383.out 0
     have hfz12_1:=za BK383.out 1
     have hfz12_2:=za BK383.out 2
     have hfz12_3:=za BK383.out 3
     go_wp2_with (first|((with_reducible refine zo (f:=110) rfl ?_);refine zw (some 16) rfl rfl Try.func110 zq15 rfl #[.int .i64 (l0_1.length:Int)] rfl zq4 ?_;(with_reducible refine (impl_varText.calls kj3 (l0_1.length:Int) t385 _ A10.out).mono ?_);rintro e w13 ⟨rfl,hb⟩;refine ⟨_,rfl,?_⟩;have n0_:=zz (zi (g:=gb383) (o:= .cells #[.bool a0_0,.slice A0_1 l0_1.length c0_1,.slice A0_2 l0_2.length c0_2,.slice A0_3 l0_3.length c0_3] 45 (0,0)) (zq0 BK383.out) hb);have n1_:=zz (ze (zq3 GE383.out) hb);clear BK383;clear HB;have BK383:=n0_;have HB:=n1_;clear n0_ n1_;(try clear hb);(try clear hb2);(try clear hk);(try clear hi);have hcz14_0:w13.cell? ⟨gb383,0,none⟩=some (.bool a0_0):=(zb BK383.out 0).trans rfl;have hcz14_1:w13.cell? ⟨gb383,1,none⟩=some (.slice A0_1 l0_1.length c0_1):=(zb BK383.out 1).trans rfl;have hcz14_2:w13.cell? ⟨gb383,2,none⟩=some (.slice A0_2 l0_2.length c0_2):=(zb BK383.out 2).trans rfl;have hcz14_3:w13.cell? ⟨gb383,3,none⟩=some (.slice A0_3 l0_3.length c0_3):=(zb BK383.out 3).trans rfl;have hfz14_0:=za BK383.out 0;have hfz14_1:=za BK383.out 1;have hfz14_2:=za BK383.out 2;have hfz14_3:=za BK383.out 3))
     go_loopg [4,21] kj3 (fun kq v4 v21 w'=>∃(x4_2:ByteArray) (x21_2:Int),v4= .string x4_2∧v21= .int .i64 x21_2∧Z0 (impl_NodeText.l0 kq x4_2 l0_1 (l0_1.length:Int) x21_2 a0_0 l0_1 l0_2 l0_3=some (r1,r2))∧Z0 (kq≤kj3)∧Z0 (w'.heap[gb383]?=some (.cells #[.bool a0_0,(.slice A0_1 l0_1.length c0_1),(.slice A0_2 l0_2.length c0_2),(.slice A0_3 l0_3.length c0_3)] 45 (0,0)))∧Z0 (Below w.heap.size w w'))
     case atStart=>exact ⟨(x4_3++t385),(0),zq16,zq16,H',⟨Nat.le_refl _⟩,⟨by (with_reducible repeat (first|refine zf ?_ _|refine zj ?_|refine zh ?_ _));exact BK383.out⟩,⟨by repeat (first|(with_reducible first|exact HB.out|apply zg|apply zd|apply zk|refine zn ?_ GE383.out)|exact HB.out)⟩⟩
     case round=>
      clear H'
      try clear c3
      try clear c9
      try clear c11
      try clear c11b0
      try clear c11b1
      try clear c11b2
      try clear hcz12_0
      try clear hcz12_1
      try clear hcz12_2
      try clear hcz12_3
      try clear hcz14_0
      try clear hcz14_1
      try clear hcz14_2
      try clear hcz14_3
      try clear hcz6_0
      try clear hcz6_1
      try clear hcz6_2
      try clear hcz6_3
      try clear hcz8_0
      try clear hcz8_1
      try clear hcz8_2
      try clear hcz8_3
      try clear hfz12_0
      try clear hfz12_1
      try clear hfz12_2
      try clear hfz12_3
      try clear hfz14_0
      try clear hfz14_1
      try clear hfz14_2
      try clear hfz14_3
      try clear hfz6_0
      try clear hfz6_1
      try clear hfz6_2
      try clear hfz6_3
      try clear hfz8_0
      try clear hfz8_1
      try clear hfz8_2
      try clear hfz8_3
      obtain ⟨x4_2,x21_2,rfl,rfl,HA,HK2,BK383,HB⟩:=hrel
      cases gk with
      |zero=>exact absurd HA.out (by simp [impl_NodeText.l0])
      |succ k2=>
       have H:=HA.out
       clear HA
       simp only [impl_NodeText.l0] at H
       by_cases c15:x21_2<(l0_1.length:Int)
       ·rw [if_pos c15] at H
        have c15b0:=decide_eq_true c15
        clear c15
        by_cases c16:0≤x21_2
        ·rw [if_pos c16] at H
         have c16b0:=decide_eq_true c16
         clear c16
         by_cases c17:x21_2<(l0_1.length:Int)
         ·rw [if_pos c17] at H
          have c17b0:=decide_eq_true c17
          clear c17
          replace H:=Option.bind_eq_some_iff.mp H
          obtain ⟨t389,A180,H⟩:=H
          replace H:(if x4_2.size+t389.size≤9223372036854775807 then (if a0_0=true then (if x21_2<(l0_2.length:Int) then ((impl_shortOf.f k2 (zpa ByteArray.empty l0_2 x21_2)).bind fun t391=>(if (x4_2++t389).size+t391.size≤9223372036854775807 then (impl_NodeText.l0 k2 ((x4_2++t389)++t391) l0_1 (l0_1.length:Int) (wrap64 (x21_2+1)) a0_0 l0_1 l0_2 l0_3) else (none))) else (none)) else (if x21_2<(l0_3.length:Int) then ((impl_varText.f k2 (rd l0_3 x21_2)).bind fun t393=>(if (x4_2++t389).size+t393.size≤9223372036854775807 then (impl_NodeText.l0 k2 ((x4_2++t389)++t393) l0_1 (l0_1.length:Int) (wrap64 (x21_2+1)) a0_0 l0_1 l0_2 l0_3) else (none))) else (none))) else (none))=some (r1,r2):=H
          have A18:=zz A180
          clear A180
          by_cases c19:x4_2.size+t389.size≤9223372036854775807
          ·rw [if_pos c19] at H
           have c19b0:=eq_true c19
           have c19b1:=decide_eq_true c19
           try have c19b2:(9223372036854775807<x4_2.size+t389.size)=False:=eq_false (Nat.not_lt.2 c19)
           by_cases c20:a0_0=true
           ·subst c20
            rw [if_pos rfl] at H
            by_cases c21:x21_2<(l0_2.length:Int)
            ·rw [if_pos c21] at H
             have c21b0:=decide_eq_true c21
             clear c21
             replace H:=Option.bind_eq_some_iff.mp H
             obtain ⟨t391,A220,H⟩:=H
             replace H:(if (x4_2++t389).size+t391.size≤9223372036854775807 then (impl_NodeText.l0 k2 ((x4_2++t389)++t391) l0_1 (l0_1.length:Int) (wrap64 (x21_2+1)) true l0_1 l0_2 l0_3) else (none))=some (r1,r2):=H
             have A22:=zz A220
             clear A220
             by_cases c23:(x4_2++t389).size+t391.size≤9223372036854775807
             ·rw [if_pos c23] at H
              have c23b0:=eq_true c23
              have c23b1:=decide_eq_true c23
              try (have c23z1:=c23b1;simp only [ByteArray.size_append] at c23z1)
              try (have c23y1:=c23b1;simp only [ByteArray.size_append,Int.natCast_add] at c23y1)
              try have c23b2:(9223372036854775807<(x4_2++t389).size+t391.size)=False:=eq_false (Nat.not_lt.2 c23)
              try (have c23b3:=c23b2;simp only [ByteArray.size_append] at c23b3)
              have H':=zz H
              clear H
              have p388:0≤(x21_2:Int):=of_decide_eq_true zq24
              have q388:x21_2<(l0_1.length:Int):=of_decide_eq_true zq24
              obtain ⟨ad388,e388,hx388_0⟩:=Kd.at_string HR0_1.out x21_2 p388 q388
              cases e388
              replace hx388_0:=(HB.out.cell (World.block_lt_of_cell? w _ hx388_0)).trans hx388_0
              replace p388:=eq_true p388
              replace q388:=eq_true q388
              go_wp2_with (first|((with_reducible refine zo (f:=111) rfl ?_);refine zw (some 28) rfl rfl Try.func111 zq15 rfl #[.string (zpa ByteArray.empty l0_1 x21_2)] rfl zq4 ?_;(with_reducible refine (impl_shortOf.calls k2 (zpa ByteArray.empty l0_1 x21_2) t389 _ A18.out).mono ?_);rintro e w24 ⟨rfl,hb⟩;refine ⟨_,rfl,?_⟩;have n0_:=zz (zi (g:=gb383) (o:= .cells #[.bool true,.slice (some ad388) l0_1.length c0_1,.slice A0_2 l0_2.length c0_2,.slice A0_3 l0_3.length c0_3] 45 (0,0)) (zq0 BK383.out) hb);have n1_:=zz (ze (zq3 GE383.out) hb);clear BK383;clear HB;have BK383:=n0_;have HB:=n1_;clear n0_ n1_;(try clear hb);(try clear hb2);(try clear hk);(try clear hi);have hcz25_0:w24.cell? ⟨gb383,0,none⟩=some (.bool true):=(zb BK383.out 0).trans rfl;have hcz25_1:w24.cell? ⟨gb383,1,none⟩=some (.slice (some ad388) l0_1.length c0_1):=(zb BK383.out 1).trans rfl;have hcz25_2:w24.cell? ⟨gb383,2,none⟩=some (.slice A0_2 l0_2.length c0_2):=(zb BK383.out 2).trans rfl;have hcz25_3:w24.cell? ⟨gb383,3,none⟩=some (.slice A0_3 l0_3.length c0_3):=(zb BK383.out 3).trans rfl;have hfz25_0:=za BK383.out 0;have hfz25_1:=za BK383.out 1;have hfz25_2:=za BK383.out 2;have hfz25_3:=za BK383.out 3;have p390:0≤(x21_2:Int):=of_decide_eq_true zq24;have q390:x21_2<(l0_2.length:Int):=of_decide_eq_true zq24;obtain ⟨ad390,e390,hx390_0⟩:=Kd.at_string HR0_2.out x21_2 p390 q390;cases e390;replace hx390_0:=(HB.out.cell (World.block_lt_of_cell? w _ hx390_0)).trans hx390_0;replace p390:=eq_true p390;replace q390:=eq_true q390)|((with_reducible refine zo (f:=111) rfl ?_);refine zw (some 38) rfl rfl Try.func111 zq15 rfl #[.string (zpa ByteArray.empty l0_2 x21_2)] rfl zq4 ?_;(with_reducible refine (impl_shortOf.calls k2 (zpa ByteArray.empty l0_2 x21_2) t391 _ A22.out).mono ?_);rintro e w26 ⟨rfl,hb⟩;refine ⟨_,rfl,?_⟩;have n0_:=zz (zi (g:=gb383) (o:= .cells #[.bool true,.slice (some ad388) l0_1.length c0_1,.slice (some ad390) l0_2.length c0_2,.slice A0_3 l0_3.length c0_3] 45 (0,0)) (zq0 BK383.out) hb);have n1_:=zz (ze (zq3 GE383.out) hb);clear BK383;clear HB;have BK383:=n0_;have HB:=n1_;clear n0_ n1_;(try clear hb);(try clear hb2);(try clear hk);(try clear hi)))
              go_roundg k2
              case measure=>have:=HJ3.out;have:=HK2.out;omega
              case rel=>exact ⟨((x4_2++t389)++t391),(wrap64 (x21_2+1)),zq16,zq16,H',⟨by have:=HJ3.out;have:=HK2.out;omega⟩,⟨by (with_reducible repeat (first|refine zf ?_ _|refine zj ?_|refine zh ?_ _));exact BK383.out⟩,⟨by repeat (first|(with_reducible first|exact HB.out|apply zg|apply zd|apply zk|refine zn ?_ GE383.out)|exact HB.out)⟩⟩
             ·rw [if_neg c23] at H
              exact absurd H zq52
            ·rw [if_neg c21] at H
             exact absurd H zq52
           ·replace c20:=Bool.eq_false_iff.mpr c20
            subst c20
            rw [if_neg (show ¬(false=true) by decide)] at H
            by_cases c27:x21_2<(l0_3.length:Int)
            ·rw [if_pos c27] at H
             have c27b0:=decide_eq_true c27
             clear c27
             replace H:=Option.bind_eq_some_iff.mp H
             obtain ⟨t393,A280,H⟩:=H
             replace H:(if (x4_2++t389).size+t393.size≤9223372036854775807 then (impl_NodeText.l0 k2 ((x4_2++t389)++t393) l0_1 (l0_1.length:Int) (wrap64 (x21_2+1)) false l0_1 l0_2 l0_3) else (none))=some (r1,r2):=H
             have A28:=zz A280
             clear A280
             by_cases c29:(x4_2++t389).size+t393.size≤9223372036854775807
             ·rw [if_pos c29] at H
              have c29b0:=eq_true c29
              have c29b1:=decide_eq_true c29
              try (have c29z1:=c29b1;simp only [ByteArray.size_append] at c29z1)
              try (have c29y1:=c29b1;simp only [ByteArray.size_append,Int.natCast_add] at c29y1)
              try have c29b2:(9223372036854775807<(x4_2++t389).size+t393.size)=False:=eq_false (Nat.not_lt.2 c29)
              try (have c29b3:=c29b2;simp only [ByteArray.size_append] at c29b3)
              have H':=zz H
              clear H
              have p388:0≤(x21_2:Int):=of_decide_eq_true zq24
              have q388:x21_2<(l0_1.length:Int):=of_decide_eq_true zq24
              obtain ⟨ad388,e388,hx388_0⟩:=Kd.at_string HR0_1.out x21_2 p388 q388
              cases e388
              replace hx388_0:=(HB.out.cell (World.block_lt_of_cell? w _ hx388_0)).trans hx388_0
              replace p388:=eq_true p388
              replace q388:=eq_true q388
              go_wp2_with (first|((with_reducible refine zo (f:=111) rfl ?_);refine zw (some 28) rfl rfl Try.func111 zq15 rfl #[.string (zpa ByteArray.empty l0_1 x21_2)] rfl zq4 ?_;(with_reducible refine (impl_shortOf.calls k2 (zpa ByteArray.empty l0_1 x21_2) t389 _ A18.out).mono ?_);rintro e w30 ⟨rfl,hb⟩;refine ⟨_,rfl,?_⟩;have n0_:=zz (zi (g:=gb383) (o:= .cells #[.bool false,.slice (some ad388) l0_1.length c0_1,.slice A0_2 l0_2.length c0_2,.slice A0_3 l0_3.length c0_3] 45 (0,0)) (zq0 BK383.out) hb);have n1_:=zz (ze (zq3 GE383.out) hb);clear BK383;clear HB;have BK383:=n0_;have HB:=n1_;clear n0_ n1_;(try clear hb);(try clear hb2);(try clear hk);(try clear hi);have hcz31_0:w30.cell? ⟨gb383,0,none⟩=some (.bool false):=(zb BK383.out 0).trans rfl;have hcz31_1:w30.cell? ⟨gb383,1,none⟩=some (.slice (some ad388) l0_1.length c0_1):=(zb BK383.out 1).trans rfl;have hcz31_2:w30.cell? ⟨gb383,2,none⟩=some (.slice A0_2 l0_2.length c0_2):=(zb BK383.out 2).trans rfl;have hcz31_3:w30.cell? ⟨gb383,3,none⟩=some (.slice A0_3 l0_3.length c0_3):=(zb BK383.out 3).trans rfl;have hfz31_0:=za BK383.out 0;have hfz31_1:=za BK383.out 1;have hfz31_2:=za BK383.out 2;have hfz31_3:=za BK383.out 3;have p392:0≤(x21_2:Int):=of_decide_eq_true zq24;have q392:x21_2<(l0_3.length:Int):=of_decide_eq_true zq24;obtain ⟨ad392,e392,hx392_0⟩:=Kd.at_int HR0_3.out x21_2 p392 q392;cases e392;replace hx392_0:=(HB.out.cell (World.block_lt_of_cell? w _ hx392_0)).trans hx392_0;replace p392:=eq_true p392;replace q392:=eq_true q392)|((with_reducible refine zo (f:=110) rfl ?_);refine zw (some 46) rfl rfl Try.func110 zq15 rfl #[.int .i64 (rd l0_3 x21_2)] rfl zq4 ?_;(with_reducible refine (impl_varText.calls k2 (rd l0_3 x21_2) t393 _ A28.out).mono ?_);rintro e w32 ⟨rfl,hb⟩;refine ⟨_,rfl,?_⟩;have n0_:=zz (zi (g:=gb383) (o:= .cells #[.bool false,.slice (some ad388) l0_1.length c0_1,.slice A0_2 l0_2.length c0_2,.slice (some ad392) l0_3.length c0_3] 45 (0,0)) (zq0 BK383.out) hb);have n1_:=zz (ze (zq3 GE383.out) hb);clear BK383;clear HB;have BK383:=n0_;have HB:=n1_;clear n0_ n1_;(try clear hb);(try clear hb2);(try clear hk);(try clear hi)))
              go_roundg k2
              case measure=>have:=HJ3.out;have:=HK2.out;omega
              case rel=>exact ⟨((x4_2++t389)++t393),(wrap64 (x21_2+1)),zq16,zq16,H',⟨by have:=HJ3.out;have:=HK2.out;omega⟩,⟨by (with_reducible repeat (first|refine zf ?_ _|refine zj ?_|refine zh ?_ _));exact BK383.out⟩,⟨by repeat (first|(with_reducible first|exact HB.out|apply zg|apply zd|apply zk|refine zn ?_ GE383.out)|exact HB.out)⟩⟩
             ·rw [if_neg c29] at H
              exact absurd H zq52
            ·rw [if_neg c27] at H
             exact absurd H zq52
          ·rw [if_neg c19] at H
           exact absurd H zq52
         ·rw [if_neg c17] at H
          exact absurd H zq52
        ·rw [if_neg c16] at H
         exact absurd H zq52
       ·rw [if_neg c15] at H
        have c15b0:=decide_eq_false c15
        clear c15
        replace H:=Option.bind_eq_some_iff.mp H
        obtain ⟨⟨t386,t387⟩,A330,H⟩:=H
        replace H:(some (t386,t387))=some (r1,r2):=H
        have A33:=zz A330
        clear A330
        simp only [Option.some.injEq,Prod.mk.injEq] at H
        obtain ⟨rfl,rfl⟩:=H
        go_wp2_with (first|((with_reducible refine zo (f:=112) rfl ?_);refine zw (some 50) rfl rfl Try.func112 zq15 rfl #[.string x4_2] rfl zq4 ?_;(with_reducible refine (impl_Sealed.calls k2 x4_2 t386 t387 _ A33.out).mono ?_);rintro e w34 ⟨rfl,hb⟩;refine ⟨_,rfl,?_⟩;have n0_:=zz (zi (g:=gb383) (o:= .cells #[.bool a0_0,.slice A0_1 l0_1.length c0_1,.slice A0_2 l0_2.length c0_2,.slice A0_3 l0_3.length c0_3] 45 (0,0)) (zq0 BK383.out) hb);have n1_:=zz (ze (zq3 GE383.out) hb);clear BK383;clear HB;have BK383:=n0_;have HB:=n1_;clear n0_ n1_;(try clear hb);(try clear hb2);(try clear hk);(try clear hi)))
        go_ret2
        exact ⟨zq10,by repeat (first|(with_reducible first|exact HB.out|apply zg|apply zd|apply zk|refine zn ?_ GE383.out)|exact HB.out)⟩
    ·rw [if_neg c11] at H
     exact absurd H zq52
 ·replace c3:=Bool.eq_false_iff.mpr c3
  subst c3
  rw [if_neg (show ¬(false=true) by decide)] at H
  simp only [Option.some.injEq,Prod.mk.injEq] at H
  obtain ⟨rfl,rfl⟩:=H
  go_enter Try.func58,Try.ntmps58
  go_wp2_with (first|((with_reducible refine zm (N:=1) rfl ?_);refine zq ?hg (N:=1) ?hd (cs:= #[.bool a0_0,.slice A0_1 l0_1.length c0_1,.slice A0_2 l0_2.length c0_2,.slice A0_3 l0_3.length c0_3]) (t:=45) ?hr ?_;(case hd=>rfl);(case hg=>rfl);(case hr=>first|(go_simp;done)|(go_simp;rfl));intro gb383 hg w35 hbox hb;have n0_:=zz (ze zq2 hb);have n1_:=zz (hbox);have n2_:=zz ((by rw [hg];exact (zc zq2):w.heap.size≤gb383));have n3_:=zz ((by rw [hg];exact (zc zq2):w.heap.size≤gb383));clear HB;have HB:=n0_;have BK383:=n1_;have GW383:=n2_;have GE383:=n3_;clear n0_ n1_ n2_ n3_;clear hb hbox hg;have hcz36_0:w35.cell? ⟨gb383,0,none⟩=some (.bool a0_0):=(zb BK383.out 0).trans rfl;have hcz36_1:w35.cell? ⟨gb383,1,none⟩=some (.slice A0_1 l0_1.length c0_1):=(zb BK383.out 1).trans rfl;have hcz36_2:w35.cell? ⟨gb383,2,none⟩=some (.slice A0_2 l0_2.length c0_2):=(zb BK383.out 2).trans rfl;have hcz36_3:w35.cell? ⟨gb383,3,none⟩=some (.slice A0_3 l0_3.length c0_3):=(zb BK383.out 3).trans rfl;have hfz36_0:=za BK383.out 0;have hfz36_1:=za BK383.out 1;have hfz36_2:=za BK383.out 2;have hfz36_3:=za BK383.out 3)|((with_reducible refine zo (f:=109) rfl ?_);refine zw (some 8) rfl rfl Try.func109 zq15 rfl #[.agg #[.bool a0_0,.slice A0_1 l0_1.length c0_1,.slice A0_2 l0_2.length c0_2,.slice A0_3 l0_3.length c0_3]] rfl zq4 ?_;(with_reducible refine (impl_NodeOk.calls a0_0 _ _ l0_1 _ _ l0_2 _ _ l0_3 false _ ?side1 ?side2 ?side3 ?side4 ?side5 ?side6 A2.out).mono ?_);(case side1=>repeat (first|exact (Kd.C_below HR0_1.out HB.out)|(with_reducible refine Kd.C_alloc ?_ _)|(with_reducible refine Kd.C_drewN ?_ _)|(with_reducible refine Kd.C_drew ?_)));(case side2=>exact HC0_1.out);(case side3=>repeat (first|exact (Kd.C_below HR0_2.out HB.out)|(with_reducible refine Kd.C_alloc ?_ _)|(with_reducible refine Kd.C_drewN ?_ _)|(with_reducible refine Kd.C_drew ?_)));(case side4=>exact HC0_2.out);(case side5=>repeat (first|exact (Kd.C_below HR0_3.out HB.out)|(with_reducible refine Kd.C_alloc ?_ _)|(with_reducible refine Kd.C_drewN ?_ _)|(with_reducible refine Kd.C_drew ?_)));(case side6=>exact HC0_3.out);rintro e w37 ⟨rfl,hb⟩;refine ⟨_,rfl,?_⟩;have n0_:=zz (zi (g:=gb383) (o:= .cells #[.bool a0_0,.slice A0_1 l0_1.length c0_1,.slice A0_2 l0_2.length c0_2,.slice A0_3 l0_3.length c0_3] 45 (0,0)) (zq0 BK383.out) hb);have n1_:=zz (ze (zq3 GE383.out) hb);clear BK383;clear HB;have BK383:=n0_;have HB:=n1_;clear n0_ n1_;(try clear hb);(try clear hb2);(try clear hk);(try clear hi)))
  go_ret2
  exact ⟨zq10,by repeat (first|(with_reducible first|exact HB.out|apply zg|apply zd|apply zk|refine zn ?_ GE383.out)|exact HB.out)⟩
def laws_eqNode.f (k:Nat) (a0_0:Bool) (l0_1:List ByteArray) (l0_2:List ByteArray) (l0_3:List Int) (a1_0:Bool) (l1_1:List ByteArray) (l1_2:List ByteArray) (l1_3:List Int):Option (Bool):=if (a0_0 !=a1_0)=true then (none) else ((laws_eqStringS.f k l0_1 l1_1).bind fun t491=>(if t491=true then ((laws_eqStringS.f k l0_2 l1_2).bind fun t492=>(if t492=true then ((laws_eqIntS.f k l0_3 l1_3).bind fun t493=>(if t493=true then (some true) else (none))) else (none))) else (none)))
theorem laws_eqNode.calls (k:Nat) (a0_0:Bool) (A0_1:Option Addr) (c0_1:Nat) (l0_1:List ByteArray) (A0_2:Option Addr) (c0_2:Nat) (l0_2:List ByteArray) (A0_3:Option Addr) (c0_3:Nat) (l0_3:List Int) (a1_0:Bool) (A1_1:Option Addr) (c1_1:Nat) (l1_1:List ByteArray) (A1_2:Option Addr) (c1_2:Nat) (l1_2:List ByteArray) (A1_3:Option Addr) (c1_3:Nat) (l1_3:List Int) (r:Bool) (w:World) (hr0_1:Kd.C Kd.string w A0_1 l0_1.length l0_1) (hc0_1:l0_1.length≤c0_1) (hr0_2:Kd.C Kd.string w A0_2 l0_2.length l0_2) (hc0_2:l0_2.length≤c0_2) (hr0_3:Kd.C (Kd.int .i64) w A0_3 l0_3.length l0_3) (hc0_3:l0_3.length≤c0_3) (hr1_1:Kd.C Kd.string w A1_1 l1_1.length l1_1) (hc1_1:l1_1.length≤c1_1) (hr1_2:Kd.C Kd.string w A1_2 l1_2.length l1_2) (hc1_2:l1_2.length≤c1_2) (hr1_3:Kd.C (Kd.int .i64) w A1_3 l1_3.length l1_3) (hc1_3:l1_3.length≤c1_3) (h:laws_eqNode.f k a0_0 l0_1 l0_2 l0_3 a1_0 l1_1 l1_2 l1_3=some r):
  Calls Try.prog 20 #[.agg #[.bool a0_0,.slice A0_1 l0_1.length c0_1,.slice A0_2 l0_2.length c0_2,.slice A0_3 l0_3.length c0_3],.agg #[.bool a1_0,.slice A1_1 l1_1.length c1_1,.slice A1_2 l1_2.length c1_2,.slice A1_3 l1_3.length c1_3]] w fun e w'=>e= .returned (.bool r)∧Below w.heap.size w w':=by
 have hu45:=Try.underlying45
 have HR0_1:=zz hr0_1
 have HC0_1:=zz hc0_1
 clear hr0_1 hc0_1
 have HR0_2:=zz hr0_2
 have HC0_2:=zz hc0_2
 clear hr0_2 hc0_2
 have HR0_3:=zz hr0_3
 have HC0_3:=zz hc0_3
 clear hr0_3 hc0_3
 have HR1_1:=zz hr1_1
 have HC1_1:=zz hc1_1
 clear hr1_1 hc1_1
 have HR1_2:=zz hr1_2
 have HC1_2:=zz hc1_2
 clear hr1_2 hc1_2
 have HR1_3:=zz hr1_3
 have HC1_3:=zz hc1_3
 clear hr1_3 hc1_3
 have HB:=zz (Below.refl w.heap.size w)
 have H:(if (a0_0 !=a1_0)=true then (none) else ((laws_eqStringS.f k l0_1 l1_1).bind fun t491=>(if t491=true then ((laws_eqStringS.f k l0_2 l1_2).bind fun t492=>(if t492=true then ((laws_eqIntS.f k l0_3 l1_3).bind fun t493=>(if t493=true then (some true) else (none))) else (none))) else (none))))=some r:=h
 clear h
 by_cases c3:(a0_0 !=a1_0)=true
 ·rw [if_pos c3] at H
  exact absurd H zq52
 ·rw [if_neg c3] at H
  have c3b0:(a0_0 !=a1_0)=false:=by simpa using c3
  (try (have c3b1:decide (a0_0=a1_0)=true:=by simpa using c3))
  (try (have c3b2:(a0_0==a1_0)=true:=by simpa using c3))
  clear c3
  replace H:=Option.bind_eq_some_iff.mp H
  obtain ⟨t491,A40,H⟩:=H
  replace H:(if t491=true then ((laws_eqStringS.f k l0_2 l1_2).bind fun t492=>(if t492=true then ((laws_eqIntS.f k l0_3 l1_3).bind fun t493=>(if t493=true then (some true) else (none))) else (none))) else (none))=some r:=H
  have A4:=zz A40
  clear A40
  by_cases c5:t491=true
  ·subst c5
   rw [if_pos rfl] at H
   replace H:=Option.bind_eq_some_iff.mp H
   obtain ⟨t492,A60,H⟩:=H
   replace H:(if t492=true then ((laws_eqIntS.f k l0_3 l1_3).bind fun t493=>(if t493=true then (some true) else (none))) else (none))=some r:=H
   have A6:=zz A60
   clear A60
   by_cases c7:t492=true
   ·subst c7
    rw [if_pos rfl] at H
    replace H:=Option.bind_eq_some_iff.mp H
    obtain ⟨t493,A80,H⟩:=H
    replace H:(if t493=true then (some true) else (none))=some r:=H
    have A8:=zz A80
    clear A80
    by_cases c9:t493=true
    ·subst c9
     rw [if_pos rfl] at H
     obtain rfl:=Option.some.inj H
     go_enter Try.func20,Try.ntmps20
     go_wp2_with (first|((with_reducible refine zm (N:=2) rfl ?_);refine zq ?hg (N:=2) ?hd (cs:= #[.bool a0_0,.slice A0_1 l0_1.length c0_1,.slice A0_2 l0_2.length c0_2,.slice A0_3 l0_3.length c0_3]) (t:=45) ?hr ?_;(case hd=>rfl);(case hg=>rfl);(case hr=>first|(go_simp;done)|(go_simp;rfl));intro gb489 hg w10 hbox hb;have n0_:=zz (ze zq2 hb);have n1_:=zz (hbox);have n2_:=zz ((by rw [hg];exact (zc zq2):w.heap.size≤gb489));have n3_:=zz ((by rw [hg];exact (zc zq2):w.heap.size≤gb489));clear HB;have HB:=n0_;have BK489:=n1_;have GW489:=n2_;have GE489:=n3_;clear n0_ n1_ n2_ n3_;clear hb hbox hg)|((with_reducible refine zm (N:=3) rfl ?_);refine zq ?hg (N:=3) ?hd (cs:= #[.bool a1_0,.slice A1_1 l1_1.length c1_1,.slice A1_2 l1_2.length c1_2,.slice A1_3 l1_3.length c1_3]) (t:=45) ?hr ?_;(case hd=>rfl);(case hg=>rfl);(case hr=>first|(go_simp;done)|(go_simp;rfl));intro gb490 hg w11 hbox hb;have n0_:=zz (zi (g:=gb489) (o:= .cells #[.bool a0_0,.slice A0_1 l0_1.length c0_1,.slice A0_2 l0_2.length c0_2,.slice A0_3 l0_3.length c0_3] 45 (0,0)) (zq0 BK489.out) hb);have n1_:=zz (ze (zq3 GE489.out) hb);have n2_:=zz (hbox);have n3_:=zz ((by rw [hg];exact (zc (zq3 GE489.out)):w.heap.size≤gb490));have n4_:=zz ((by rw [hg];exact (zc (zq3 GE489.out)):w.heap.size≤gb490));have n5_:=zz ((by rw [hg];exact Nat.ne_of_lt (zu (g:=gb489) (o:= .cells #[.bool a0_0,.slice A0_1 l0_1.length c0_1,.slice A0_2 l0_2.length c0_2,.slice A0_3 l0_3.length c0_3] 45 (0,0)) (zq0 BK489.out)):gb489≠gb490));have n6_:=zz ((by rw [hg];exact Nat.ne_of_gt (zu (g:=gb489) (o:= .cells #[.bool a0_0,.slice A0_1 l0_1.length c0_1,.slice A0_2 l0_2.length c0_2,.slice A0_3 l0_3.length c0_3] 45 (0,0)) (zq0 BK489.out)):gb490≠gb489));clear BK489;clear HB;have BK489:=n0_;have HB:=n1_;have BK490:=n2_;have GW490:=n3_;have GE490:=n4_;have NB489_490:=n5_;have NB490_489:=n6_;clear n0_ n1_ n2_ n3_ n4_ n5_ n6_;clear hb hbox hg;have hnb12:=NB489_490.out;have hnc12:=NB490_489.out;have hcz13_0:w11.cell? ⟨gb489,0,none⟩=some (.bool a0_0):=(zb BK489.out 0).trans rfl;have hcz13_1:w11.cell? ⟨gb489,1,none⟩=some (.slice A0_1 l0_1.length c0_1):=(zb BK489.out 1).trans rfl;have hcz13_2:w11.cell? ⟨gb489,2,none⟩=some (.slice A0_2 l0_2.length c0_2):=(zb BK489.out 2).trans rfl;have hcz13_3:w11.cell? ⟨gb489,3,none⟩=some (.slice A0_3 l0_3.length c0_3):=(zb BK489.out 3).trans rfl;have hfz13_0:=za BK489.out 0;have hfz13_1:=za BK489.out 1;have hfz13_2:=za BK489.out 2;have hfz13_3:=za BK489.out 3;have hcz14_0:w11.cell? ⟨gb490,0,none⟩=some (.bool a1_0):=(zb BK490.out 0).trans rfl;have hcz14_1:w11.cell? ⟨gb490,1,none⟩=some (.slice A1_1 l1_1.length c1_1):=(zb BK490.out 1).trans rfl;have hcz14_2:w11.cell? ⟨gb490,2,none⟩=some (.slice A1_2 l1_2.length c1_2):=(zb BK490.out 2).trans rfl;have hcz14_3:w11.cell? ⟨gb490,3,none⟩=some (.slice A1_3 l1_3.length c1_3):=(zb BK490.out 3).trans rfl;have hfz14_0:=za BK490.out 0;have hfz14_1:=za BK490.out 1;have hfz14_2:=za BK490.out 2;have hfz14_3:=za BK490.out 3)|((with_reducible refine zo (f:=60) rfl ?_);refine zw (some 14) rfl rfl Try.func60 zq15 rfl #[.slice A0_1 l0_1.length c0_1,.slice A1_1 l1_1.length c1_1] rfl zq4 ?_;(with_reducible refine (laws_eqStringS.calls k _ _ l0_1 _ _ l1_1 true _ ?side1 ?side2 ?side3 ?side4 A4.out).mono ?_);(case side1=>repeat (first|exact (Kd.C_below HR0_1.out HB.out)|(with_reducible refine Kd.C_alloc ?_ _)|(with_reducible refine Kd.C_drewN ?_ _)|(with_reducible refine Kd.C_drew ?_)));(case side2=>exact HC0_1.out);(case side3=>repeat (first|exact (Kd.C_below HR1_1.out HB.out)|(with_reducible refine Kd.C_alloc ?_ _)|(with_reducible refine Kd.C_drewN ?_ _)|(with_reducible refine Kd.C_drew ?_)));(case side4=>exact HC1_1.out);rintro e w' ⟨rfl,⟨nd,rfl⟩⟩;refine ⟨_,rfl,?_⟩)|((with_reducible refine zo (f:=60) rfl ?_);refine zw (some 20) rfl rfl Try.func60 zq15 rfl #[.slice A0_2 l0_2.length c0_2,.slice A1_2 l1_2.length c1_2] rfl zq4 ?_;(with_reducible refine (laws_eqStringS.calls k _ _ l0_2 _ _ l1_2 true _ ?side1 ?side2 ?side3 ?side4 A6.out).mono ?_);(case side1=>repeat (first|exact (Kd.C_below HR0_2.out (zq1 GE489.out GE490.out))|(with_reducible refine Kd.C_alloc ?_ _)|(with_reducible refine Kd.C_drewN ?_ _)|(with_reducible refine Kd.C_drew ?_)));(case side2=>exact HC0_2.out);(case side3=>repeat (first|exact (Kd.C_below HR1_2.out (zq1 GE489.out GE490.out))|(with_reducible refine Kd.C_alloc ?_ _)|(with_reducible refine Kd.C_drewN ?_ _)|(with_reducible refine Kd.C_drew ?_)));(case side4=>exact HC1_2.out);rintro e w' ⟨rfl,⟨nd,rfl⟩⟩;refine ⟨_,rfl,?_⟩)|((with_reducible refine zo (f:=50) rfl ?_);refine zw (some 26) rfl rfl Try.func50 zq15 rfl #[.slice A0_3 l0_3.length c0_3,.slice A1_3 l1_3.length c1_3] rfl zq4 ?_;(with_reducible refine (laws_eqIntS.calls k _ _ l0_3 _ _ l1_3 true _ ?side1 ?side2 ?side3 ?side4 A8.out).mono ?_);(case side1=>repeat (first|exact (Kd.C_below HR0_3.out (zq1 GE489.out GE490.out))|(with_reducible refine Kd.C_alloc ?_ _)|(with_reducible refine Kd.C_drewN ?_ _)|(with_reducible refine Kd.C_drew ?_)));(case side2=>exact HC0_3.out);(case side3=>repeat (first|exact (Kd.C_below HR1_3.out (zq1 GE489.out GE490.out))|(with_reducible refine Kd.C_alloc ?_ _)|(with_reducible refine Kd.C_drewN ?_ _)|(with_reducible refine Kd.C_drew ?_)));(case side4=>exact HC1_3.out);rintro e w' ⟨rfl,⟨nd,rfl⟩⟩;refine ⟨_,rfl,?_⟩))
     go_ret
     exact ⟨zq10,by repeat (first|(with_reducible first|exact HB.out|apply zg|apply zd|apply zk|refine zn ?_ GE489.out|refine zn ?_ GE490.out)|exact HB.out)⟩
    ·replace c9:=Bool.eq_false_iff.mpr c9
     subst c9
     rw [if_neg (show ¬(false=true) by decide)] at H
     exact absurd H zq52
   ·replace c7:=Bool.eq_false_iff.mpr c7
    subst c7
    rw [if_neg (show ¬(false=true) by decide)] at H
    exact absurd H zq52
  ·replace c5:=Bool.eq_false_iff.mpr c5
   subst c5
   rw [if_neg (show ¬(false=true) by decide)] at H
   exact absurd H zq52
def laws_markNode.f (k:Nat) (a0_0:Bool) (l0_1:List ByteArray) (l0_2:List ByteArray) (l0_3:List Int) (a1:Int):Option (Int×List ByteArray×List ByteArray×List Int):=(laws_markStringS.f k l0_1 a1).bind fun bt495=>((laws_markStringS.f k l0_2 bt495.1).bind fun bt497=>((laws_markIntS.f k l0_3 bt497.1).bind fun bt499=>(some (bt499.1,bt495.2,bt497.2,bt499.2))))
theorem laws_markNode.calls (k:Nat) (a0_0:Bool) (P0_1_:Nat→Prop) (u9000_:Value) (l0_1:List ByteArray) (P0_2_:Nat→Prop) (u9001_:Value) (l0_2:List ByteArray) (P0_3_:Nat→Prop) (u9002_:Value) (l0_3:List Int) (a1:Int) (r1:Int) (r2:List ByteArray) (r3:List ByteArray) (r4:List Int) (w0 w:World) (hB:Below w0.heap.size w0 w) (ho0_1:Kd.R Kd.string 9 w w0.heap.size P0_1_ u9000_ l0_1) (hp0_1_0_2:∀k_,P0_1_ k_→¬P0_2_ k_) (ho0_2:Kd.R Kd.string 9 w w0.heap.size P0_2_ u9001_ l0_2) (hp0_2_0_1:∀k_,P0_2_ k_→¬P0_1_ k_) (ho0_3:Kd.R (Kd.int .i64) 3 w w0.heap.size P0_3_ u9002_ l0_3) (h:laws_markNode.f k a0_0 l0_1 l0_2 l0_3 a1=some (r1,r2,r3,r4)):
  Calls Try.prog 21 #[.agg #[.bool a0_0,u9000_,u9001_,u9002_],.int .i64 a1] w fun e w'=>e= .returned (.int .i64 r1)∧Kd.R Kd.string 9 w' w0.heap.size (fun k_=>((P0_1_ k_∨P0_2_ k_∨P0_3_ k_)∨w.heap.size≤k_)) u9000_ r2∧Kd.R Kd.string 9 w' w0.heap.size (fun k_=>((P0_1_ k_∨P0_2_ k_∨P0_3_ k_)∨w.heap.size≤k_)) u9001_ r3∧Kd.R (Kd.int .i64) 3 w' w0.heap.size (fun k_=>((P0_1_ k_∨P0_2_ k_∨P0_3_ k_)∨w.heap.size≤k_)) u9002_ r4∧Below w0.heap.size w0 w'∧Kept w w' (fun k_=>P0_1_ k_∨P0_2_ k_∨P0_3_ k_):=by
 have hu45:=Try.underlying45
 have HO0_1:=zz (show Kd.R Kd.string 9 w w0.heap.size (fun k_=>((P0_1_ k_∨P0_2_ k_∨P0_3_ k_)∨w.heap.size≤k_)∧some k_≠(u9001_:Value).ownBlock) u9000_ l0_1 from Kd.R_mono ho0_1 (fun k_ hk=>⟨(.inl (.inl hk)),fun e_=>hp0_1_0_2 k_ hk (ho0_2.1 k_ e_.symm)⟩))
 have HO0_2:=zz (show Kd.R Kd.string 9 w w0.heap.size (fun k_=>((P0_1_ k_∨P0_2_ k_∨P0_3_ k_)∨w.heap.size≤k_)∧some k_≠(u9000_:Value).ownBlock) u9001_ l0_2 from Kd.R_mono ho0_2 (fun k_ hk=>⟨(.inl (.inr (.inl hk))),fun e_=>hp0_2_0_1 k_ hk (ho0_1.1 k_ e_.symm)⟩))
 have HO0_3:=zz (show Kd.R (Kd.int .i64) 3 w w0.heap.size (fun k_=>((P0_1_ k_∨P0_2_ k_∨P0_3_ k_)∨w.heap.size≤k_)) u9002_ l0_3 from Kd.R_mono ho0_3 (fun k_ hk=>(.inl (.inr (.inr hk)))))
 have HK:=zz (Kept.refl w (fun k_=>P0_1_ k_∨P0_2_ k_∨P0_3_ k_))
 have HW0:=zz hB.size
 have HB:=zz hB
 clear hB
 have H:((laws_markStringS.f k l0_1 a1).bind fun bt495=>((laws_markStringS.f k l0_2 bt495.1).bind fun bt497=>((laws_markIntS.f k l0_3 bt497.1).bind fun bt499=>(some (bt499.1,bt495.2,bt497.2,bt499.2)))))=some (r1,r2,r3,r4):=h
 clear h
 replace H:=Option.bind_eq_some_iff.mp H
 obtain ⟨⟨t495,t496⟩,A30,H⟩:=H
 replace H:((laws_markStringS.f k l0_2 t495).bind fun bt497=>((laws_markIntS.f k l0_3 bt497.1).bind fun bt499=>(some (bt499.1,t496,bt497.2,bt499.2))))=some (r1,r2,r3,r4):=H
 have A3:=zz A30
 clear A30
 replace H:=Option.bind_eq_some_iff.mp H
 obtain ⟨⟨t497,t498⟩,A40,H⟩:=H
 replace H:((laws_markIntS.f k l0_3 t497).bind fun bt499=>(some (bt499.1,t496,t498,bt499.2)))=some (r1,r2,r3,r4):=H
 have A4:=zz A40
 clear A40
 replace H:=Option.bind_eq_some_iff.mp H
 obtain ⟨⟨t499,t500⟩,A50,H⟩:=H
 replace H:(some (t499,t496,t498,t500))=some (r1,r2,r3,r4):=H
 have A5:=zz A50
 clear A50
 simp only [Option.some.injEq,Prod.mk.injEq] at H
 obtain ⟨rfl,rfl,rfl,rfl⟩:=H
 obtain ⟨Ao6,co6,eo6⟩:=Kd.R_slice HO0_1.out
 subst eo6
 obtain ⟨Ao7,co7,eo7⟩:=Kd.R_slice HO0_2.out
 subst eo7
 obtain ⟨Ao8,co8,eo8⟩:=Kd.R_slice HO0_3.out
 subst eo8
 go_enter Try.func21,Try.ntmps21
 go_wp2_with (first|((with_reducible refine zm (N:=2) rfl ?_);refine zq ?hg (N:=2) ?hd (cs:= #[.bool a0_0,.slice Ao6 l0_1.length co6,.slice Ao7 l0_2.length co7,.slice Ao8 l0_3.length co8]) (t:=45) ?hr ?_;(case hd=>rfl);(case hg=>rfl);(case hr=>first|(go_simp;done)|(go_simp;rfl));intro gb494 hg w9 hbox hb;have n0_:=zz (Kd.R_below (zq5 HO0_1.out) hb);have n1_:=zz (Kd.R_below (zq5 HO0_2.out) hb);have n2_:=zz (Kd.R_below (zq5 HO0_3.out) hb);have n3_:=zz (Kept.below (S:=(fun k_=>P0_1_ k_∨P0_2_ k_∨P0_3_ k_)) zq54 hb);have n4_:=zz (ze zq2 hb);have n5_:=zz (hbox);have n6_:=zz ((by rw [hg];exact (by first|exact HK.out.1|exact (show Kept w _ (fun k_=>P0_1_ k_∨P0_2_ k_∨P0_3_ k_) from by repeat (first|(with_reducible first|exact HK.out|apply Kept.alloc|apply Kept.drewN|apply Kept.drew)|exact HK.out)).1):w.heap.size≤gb494));have n7_:=zz ((by rw [hg];exact (zc zq2):w0.heap.size≤gb494));clear HO0_1;clear HO0_2;clear HO0_3;clear HK;clear HB;have HO0_1:=n0_;have HO0_2:=n1_;have HO0_3:=n2_;have HK:=n3_;have HB:=n4_;have BK494:=n5_;have GW494:=n6_;have GE494:=n7_;clear n0_ n1_ n2_ n3_ n4_ n5_ n6_ n7_;clear hb hbox hg;have hcz10_0:w9.cell? ⟨gb494,0,none⟩=some (.bool a0_0):=(zb BK494.out 0).trans rfl;have hcz10_1:w9.cell? ⟨gb494,1,none⟩=some (.slice Ao6 l0_1.length co6):=(zb BK494.out 1).trans rfl;have hcz10_2:w9.cell? ⟨gb494,2,none⟩=some (.slice Ao7 l0_2.length co7):=(zb BK494.out 2).trans rfl;have hcz10_3:w9.cell? ⟨gb494,3,none⟩=some (.slice Ao8 l0_3.length co8):=(zb BK494.out 3).trans rfl;have hfz10_0:=za BK494.out 0;have hfz10_1:=za BK494.out 1;have hfz10_2:=za BK494.out 2;have hfz10_3:=za BK494.out 3)|((with_reducible refine zo (f:=61) rfl ?_);refine zw (some 8) rfl rfl Try.func61 zq15 rfl #[.slice Ao6 l0_1.length co6,.int .i64 a1] rfl zq4 ?_;(with_reducible refine (laws_markStringS.calls k (fun k_=>some k_=(.slice Ao6 l0_1.length co6:Value).ownBlock) (.slice Ao6 l0_1.length co6) l0_1 a1 t495 t496 w0 _ ?side1 ?side2 A3.out).mono ?_);(case side1=>repeat (first|(with_reducible first|exact HB.out|apply zg|apply zd|apply zk|refine zn ?_ GE494.out)|exact HB.out));(case side2=>exact Kd.R_tight rfl HO0_1.out);rintro e w11 ⟨rfl,hy0,hb,hkp⟩;refine ⟨_,rfl,?_⟩;have n0_:=zz (Kd.R_reok rfl hy0 (fun k_ e_=>HO0_1.out.1 k_ e_));have n1_:=zz (Kd.R_mono (ok':=fun k_=>((P0_1_ k_∨P0_2_ k_∨P0_3_ k_)∨w.heap.size≤k_)∧some k_≠(.slice Ao6 l0_1.length co6:Value).ownBlock) (Kd.R_keptB (HO0_2.out) hkp (fun k_ hk_ hs_=>(hk_.2) hs_)) (fun k_ hk_=>⟨hk_.1.1,hk_.1.2⟩));have n2_:=zz (Kd.R_mono (ok':=fun k_=>((P0_1_ k_∨P0_2_ k_∨P0_3_ k_)∨w.heap.size≤k_)) (Kd.R_keptB ((Kd.R_apart' HO0_3.out (Kd.R_typed HO0_1.out) zq26)) hkp (fun k_ hk_ hs_=>(hk_.2) hs_)) (fun k_ hk_=>hk_.1.1));have n3_:=zz (zBa (zq0 BK494.out) hkp (fun hs_=>(fun e_=>(Kd.R_ne HO0_1.out BK494.out zq26) e_) hs_));have n4_:=zz (Kept.then_ (S:=(fun k_=>P0_1_ k_∨P0_2_ k_∨P0_3_ k_)) (zq71 GW494.out) hkp (fun k_ hs_=>(fun e_=>(HO0_1.out.1 k_ e_.symm).1) hs_));have n5_:=zz (hb);clear HO0_1;clear HO0_2;clear HO0_3;clear BK494;clear HK;clear HB;have HO0_1:=n0_;have HO0_2:=n1_;have HO0_3:=n2_;have BK494:=n3_;have HK:=n4_;have HB:=n5_;clear n0_ n1_ n2_ n3_ n4_ n5_;(try clear hb);(try clear hkp);(try clear hy0);have hcz12_0:w11.cell? ⟨gb494,0,none⟩=some (.bool a0_0):=(zb BK494.out 0).trans rfl;have hcz12_1:w11.cell? ⟨gb494,1,none⟩=some (.slice Ao6 l0_1.length co6):=(zb BK494.out 1).trans rfl;have hcz12_2:w11.cell? ⟨gb494,2,none⟩=some (.slice Ao7 l0_2.length co7):=(zb BK494.out 2).trans rfl;have hcz12_3:w11.cell? ⟨gb494,3,none⟩=some (.slice Ao8 l0_3.length co8):=(zb BK494.out 3).trans rfl;have hfz12_0:=za BK494.out 0;have hfz12_1:=za BK494.out 1;have hfz12_2:=za BK494.out 2;have hfz12_3:=za BK494.out 3)|((with_reducible refine zo (f:=61) rfl ?_);refine zw (some 12) rfl rfl Try.func61 zq15 rfl #[.slice Ao7 l0_2.length co7,.int .i64 t495] rfl zq4 ?_;(with_reducible refine (laws_markStringS.calls k (fun k_=>some k_=(.slice Ao7 l0_2.length co7:Value).ownBlock) (.slice Ao7 l0_2.length co7) l0_2 t495 t497 t498 w0 _ ?side1 ?side2 A4.out).mono ?_);(case side1=>repeat (first|(with_reducible first|exact HB.out|apply zg|apply zd|apply zk|refine zn ?_ GE494.out)|exact HB.out));(case side2=>exact Kd.R_tight rfl HO0_2.out);rintro e w13 ⟨rfl,hy0,hb,hkp⟩;refine ⟨_,rfl,?_⟩;have n0_:=zz (Kd.R_mono (ok':=fun k_=>((P0_1_ k_∨P0_2_ k_∨P0_3_ k_)∨w.heap.size≤k_)∧some k_≠(.slice Ao7 l0_2.length co7:Value).ownBlock) (Kd.R_keptB (HO0_1.out) hkp (fun k_ hk_ hs_=>(hk_.2) hs_)) (fun k_ hk_=>⟨hk_.1.1,hk_.1.2⟩));have n1_:=zz (Kd.R_reok rfl hy0 (fun k_ e_=>HO0_2.out.1 k_ e_));have n2_:=zz (Kd.R_mono (ok':=fun k_=>((P0_1_ k_∨P0_2_ k_∨P0_3_ k_)∨w.heap.size≤k_)) (Kd.R_keptB ((Kd.R_apart' HO0_3.out (Kd.R_typed HO0_2.out) zq26)) hkp (fun k_ hk_ hs_=>(hk_.2) hs_)) (fun k_ hk_=>hk_.1.1));have n3_:=zz (zBa (zq0 BK494.out) hkp (fun hs_=>(fun e_=>(Kd.R_ne HO0_2.out BK494.out zq26) e_) hs_));have n4_:=zz (Kept.then_ (S:=(fun k_=>P0_1_ k_∨P0_2_ k_∨P0_3_ k_)) (zq71 GW494.out) hkp (fun k_ hs_=>(fun e_=>(HO0_2.out.1 k_ e_.symm).1) hs_));have n5_:=zz (hb);clear HO0_1;clear HO0_2;clear HO0_3;clear BK494;clear HK;clear HB;have HO0_1:=n0_;have HO0_2:=n1_;have HO0_3:=n2_;have BK494:=n3_;have HK:=n4_;have HB:=n5_;clear n0_ n1_ n2_ n3_ n4_ n5_;(try clear hb);(try clear hkp);(try clear hy0);have hcz14_0:w13.cell? ⟨gb494,0,none⟩=some (.bool a0_0):=(zb BK494.out 0).trans rfl;have hcz14_1:w13.cell? ⟨gb494,1,none⟩=some (.slice Ao6 l0_1.length co6):=(zb BK494.out 1).trans rfl;have hcz14_2:w13.cell? ⟨gb494,2,none⟩=some (.slice Ao7 l0_2.length co7):=(zb BK494.out 2).trans rfl;have hcz14_3:w13.cell? ⟨gb494,3,none⟩=some (.slice Ao8 l0_3.length co8):=(zb BK494.out 3).trans rfl;have hfz14_0:=za BK494.out 0;have hfz14_1:=za BK494.out 1;have hfz14_2:=za BK494.out 2;have hfz14_3:=za BK494.out 3)|((with_reducible refine zo (f:=51) rfl ?_);refine zw (some 16) rfl rfl Try.func51 zq15 rfl #[.slice Ao8 l0_3.length co8,.int .i64 t497] rfl zq4 ?_;(with_reducible refine (laws_markIntS.calls k (fun k_=>some k_=(.slice Ao8 l0_3.length co8:Value).ownBlock) (.slice Ao8 l0_3.length co8) l0_3 t497 t499 t500 w0 _ ?side1 ?side2 A5.out).mono ?_);(case side1=>repeat (first|(with_reducible first|exact HB.out|apply zg|apply zd|apply zk|refine zn ?_ GE494.out)|exact HB.out));(case side2=>exact Kd.R_tight rfl HO0_3.out);rintro e w15 ⟨rfl,hy0,hb,hkp⟩;refine ⟨_,rfl,?_⟩;have n0_:=zz (Kd.R_mono (ok':=fun k_=>((P0_1_ k_∨P0_2_ k_∨P0_3_ k_)∨w.heap.size≤k_)∧some k_≠(.slice Ao7 l0_2.length co7:Value).ownBlock) (Kd.R_keptB ((Kd.R_apart' HO0_1.out (Kd.R_typed HO0_3.out) zq26)) hkp (fun k_ hk_ hs_=>(hk_.2) hs_)) (fun k_ hk_=>⟨hk_.1.1.1,hk_.1.1.2⟩));have n1_:=zz (Kd.R_mono (ok':=fun k_=>((P0_1_ k_∨P0_2_ k_∨P0_3_ k_)∨w.heap.size≤k_)∧some k_≠(.slice Ao6 l0_1.length co6:Value).ownBlock) (Kd.R_keptB ((Kd.R_apart' HO0_2.out (Kd.R_typed HO0_3.out) zq26)) hkp (fun k_ hk_ hs_=>(hk_.2) hs_)) (fun k_ hk_=>⟨hk_.1.1.1,hk_.1.1.2⟩));have n2_:=zz (Kd.R_reok rfl hy0 (fun k_ e_=>HO0_3.out.1 k_ e_));have n3_:=zz (zBa (zq0 BK494.out) hkp (fun hs_=>(fun e_=>(Kd.R_ne HO0_3.out BK494.out zq26) e_) hs_));have n4_:=zz (Kept.then_ (S:=(fun k_=>P0_1_ k_∨P0_2_ k_∨P0_3_ k_)) (zq71 GW494.out) hkp (fun k_ hs_=>(fun e_=>(HO0_3.out.1 k_ e_.symm)) hs_));have n5_:=zz (hb);clear HO0_1;clear HO0_2;clear HO0_3;clear BK494;clear HK;clear HB;have HO0_1:=n0_;have HO0_2:=n1_;have HO0_3:=n2_;have BK494:=n3_;have HK:=n4_;have HB:=n5_;clear n0_ n1_ n2_ n3_ n4_ n5_;(try clear hb);(try clear hkp);(try clear hy0)))
 go_ret
 exact ⟨zq10,by (with_reducible repeat (first|apply Kd.R_alloc|apply Kd.R_drewN|apply Kd.R_drew));exact Kd.R_mono HO0_1.out (fun _ hk=>hk.1),by (with_reducible repeat (first|apply Kd.R_alloc|apply Kd.R_drewN|apply Kd.R_drew));exact Kd.R_mono HO0_2.out (fun _ hk=>hk.1),by (with_reducible repeat (first|apply Kd.R_alloc|apply Kd.R_drewN|apply Kd.R_drew));exact HO0_3.out,by repeat (first|(with_reducible first|exact HB.out|apply zg|apply zd|apply zk|refine zn ?_ GE494.out)|exact HB.out),by repeat (first|(with_reducible first|exact HK.out|apply Kept.alloc|apply Kept.drewN|apply Kept.drew|refine Kept.setCell ?_ (.inr GW494.out) _)|exact HK.out)⟩
def kNode:Kd (Bool×(List ByteArray)×(List ByteArray)×(List Int)):=Own.apair Kd.bool (Own.apair (Own.srow 9 Kd.string) (Own.apair (Own.srow 9 Kd.string) (Own.srow 3 (Kd.int .i64))))
theorem zCa {w:World} {l0:Bool} {l1:List ByteArray} {l2:List ByteArray} {l3:List Int} {cs:List Value} (h:kNode.K w (l0,l1,l2,l3) cs):∃A1 c1 A2 c2 A3 c3,cs=[.bool l0,.slice A1 l1.length c1,.slice A2 l2.length c2,.slice A3 l3.length c3]∧l1.length≤c1∧Kd.C Kd.string w A1 l1.length l1∧l2.length≤c2∧Kd.C Kd.string w A2 l2.length l2∧l3.length≤c3∧Kd.C (Kd.int .i64) w A3 l3.length l3:=by
 obtain ⟨y0,_,rfl,e0,⟨y1,_,rfl,⟨A1,c1,rfl,m1,r1⟩,⟨y2,_,rfl,⟨A2,c2,rfl,m2,r2⟩,⟨A3,c3,rfl,m3,r3⟩⟩⟩⟩:=h
 obtain rfl:y0=[.bool l0]:=e0
 exact ⟨A1,c1,A2,c2,A3,c3,rfl,m1,r1,m2,r2,m3,r3⟩
theorem kNode_openM {w:World} {base:Nat} {ok:Nat→Prop} {l0:Bool} {l1:List ByteArray} {l2:List ByteArray} {l3:List Int} {cs:List Value} (h:kNode.M w base ok (l0,l1,l2,l3) cs):∃v1 v2 v3,∃P1 P2 P3:Nat→Prop,cs=[.bool l0,v1,v2,v3]∧Kd.R Kd.string 9 w base P1 v1 l1∧Kd.R Kd.string 9 w base P2 v2 l2∧Kd.R (Kd.int .i64) 3 w base P3 v3 l3∧(∀k,P1 k→ok k)∧(∀k,P2 k→ok k)∧(∀k,P3 k→ok k)∧(∀k,P1 k→¬P2 k)∧(∀k,P1 k→¬P3 k)∧(∀k,P2 k→¬P3 k):=by
 obtain ⟨c0,d0,P0,B0,rfl,h0,h,a0,b0,x0⟩:=Own.apair_open h
 obtain ⟨c1,d1,P1,B1,rfl,h1,h,a1,b1,x1⟩:=Own.apair_open h
 obtain ⟨c2,d2,P2,B2,rfl,h2,h,a2,b2,x2⟩:=Own.apair_open h
 have h3:=h
 obtain rfl:c0=[.bool l0]:=h0
 obtain ⟨v1,e1,h1⟩:=h1
 subst e1
 obtain ⟨v2,e2,h2⟩:=h2
 subst e2
 obtain ⟨v3,e3,h3⟩:=h3
 subst e3
 exact ⟨v1,v2,v3,P1,P2,B2,rfl,Kd.S_R h1,Kd.S_R h2,Kd.S_R h3,fun k h2=>b0 k (a1 k h2),fun k h2=>b0 k (b1 k (a2 k h2)),fun k h2=>b0 k (b1 k (b2 k (h2))),fun k h1 h2=>x1 k h1 (a2 k h2),fun k h1 h2=>x1 k h1 (b2 k (h2)),fun k h1 h2=>x2 k h1 (h2)⟩
theorem kNode_mkM {w:World} {base:Nat} {ok:Nat→Prop} {l0:Bool} {l1:List ByteArray} {l2:List ByteArray} {l3:List Int} {v1:Value} {P1:Nat→Prop} {v2:Value} {P2:Nat→Prop} {v3:Value} {P3:Nat→Prop} (r1:Kd.R Kd.string 9 w base P1 v1 l1) (r2:Kd.R Kd.string 9 w base P2 v2 l2) (r3:Kd.R (Kd.int .i64) 3 w base P3 v3 l3) (o1:∀k,P1 k→ok k) (o2:∀k,P2 k→ok k) (o3:∀k,P3 k→ok k) (x1_2:∀k,P1 k→¬P2 k) (x1_3:∀k,P1 k→¬P3 k) (x2_3:∀k,P2 k→¬P3 k):kNode.M w base ok (l0,l1,l2,l3) [.bool l0,v1,v2,v3]:=by
 have t3:=(show (Own.srow 3 (Kd.int .i64)).M w base P3 l3 [v3] from ((Own.srow 3 (Kd.int .i64)).M_mono (fun k hk=>(r3.1 k hk.symm)) (Own.srow_of_R rfl r3)))
 have t2:=Own.apair_mk (ok:=fun k=>P2 k∨P3 k) (okA:=fun k=>P2 k) (okB:=fun k=>P3 k) (show (Own.srow 9 Kd.string).M w base P2 l2 [v2] from ((Own.srow 9 Kd.string).M_mono (fun k hk=>(r2.1 k hk.symm)) (Own.srow_of_R rfl r2))) t3 (fun k h=> .inl h) (fun k h=> .inr h) (fun k h1 h2=>x2_3 k h1 h2)
 have t1:=Own.apair_mk (ok:=fun k=>P1 k∨P2 k∨P3 k) (okA:=fun k=>P1 k) (okB:=fun k=>P2 k∨P3 k) (show (Own.srow 9 Kd.string).M w base P1 l1 [v1] from ((Own.srow 9 Kd.string).M_mono (fun k hk=>(r1.1 k hk.symm)) (Own.srow_of_R rfl r1))) t2 (fun k h=> .inl h) (fun k h=> .inr h) (fun k h1 h=>by
  rcases h with h|h
  ·exact x1_2 k h1 h
  ·exact x1_3 k h1 h)
 have t0:=Own.apair_mk (ok:=ok) (okA:=fun _=>False) (okB:=fun k=>P1 k∨P2 k∨P3 k) (show Kd.bool.M w base (fun _=>False) l0 [.bool l0] from rfl) t1 (fun k h=>h.elim) (fun k h=>by
  rcases h with h|h|h
  ·exact o1 k h
  ·exact o2 k h
  ·exact o3 k h) (fun k h1 _=>h1.elim)
 exact t0
abbrev Z45:List Value:=[.bool false,.slice none 0 0,.slice none 0 0,.slice none 0 0]
def szNode_c_f (k:Nat) (z:(Bool×List ByteArray×List ByteArray×List Int)) (a:Int):Option Int:=laws_szNode.f k z.1 z.2.1 z.2.2.1 z.2.2.2 a
theorem szNode_c (k:Nat) (z:(Bool×List ByteArray×List ByteArray×List Int)) (a r:Int) {cs:List Value} (w:World) (h:kNode.K w z cs) (hf:szNode_c_f k z a=some r):
  Calls Try.prog 16 #[.agg cs.toArray,.int .i64 a] w fun e w'=>e= .returned (.int .i64 r)∧Below w.heap.size w w':=by
 obtain ⟨l0,l1,l2,l3⟩:=z
 obtain ⟨A1,c1,A2,c2,A3,c3,rfl,m1,r1,m2,r2,m3,r3⟩:=zCa h
 exact laws_szNode.calls k l0 A1 c1 l1 A2 c2 l2 A3 c3 l3 a r w r1 m1 r2 m2 r3 m3 hf
def ToNode (k:Nat) (a z:(Bool×List ByteArray×List ByteArray×List Int)):Prop:=z.1=a.1∧laws_toStringS.f k a.2.1=some z.2.1∧laws_toStringS.f k a.2.2.1=some z.2.2.1∧laws_toIntS.f k a.2.2.2=some z.2.2.2
theorem toStrings_c (k:Nat) (z r:List ByteArray) {v:Value} (w:World) (h:(Own.srow 9 Kd.string).K w z [v]) (hf:laws_toStringS.f k z=some r):
  Calls Try.prog 57 #[v] w fun e w'=>∃u:Value,e= .returned u∧(Own.srow 9 Kd.string).M w' w.heap.size (Fr w w') r [u]∧Below w.heap.size w w':=by
 obtain ⟨A0,c0,hv,m0,r0⟩:=h
 injection hv with hv
 subst hv
 refine (laws_toStringS.calls k A0 c0 z r w r0 m0 hf).mono ?_
 rintro e w' ⟨u,rfl,R,hb⟩
 exact ⟨u,rfl,made_of_R rfl R,hb⟩
theorem toNode_o (k:Nat) (b0:Bool) (k1 k2:List ByteArray) (k3:List Int) (r1 r2:List ByteArray) (r3:List Int) {cs:List Value} (w:World) (h:kNode.K w (b0,k1,k2,k3) cs) (t1:laws_toStringS.f k k1=some r1) (t2:laws_toStringS.f k k2=some r2) (t3:laws_toIntS.f k k3=some r3):
  Calls Try.prog 18 #[.agg cs.toArray] w fun e w'=>∃ds:List Value,e= .returned (.agg ds.toArray)∧kNode.M w' w.heap.size (Fr w w') (b0,r1,r2,r3) ds∧Below w.heap.size w w':=by
 have KS0:=h
 obtain ⟨A1,c1,A2,c2,A3,c3,rfl,m1,r1,m2,r2,m3,r3_⟩:=zCa h
 have KR1:=zz (show (Own.srow 9 Kd.string).K w k1 [.slice A1 k1.length c1] from ⟨A1,c1,rfl,m1,r1⟩);have KR2:=zz (show (Own.srow 9 Kd.string).K w k2 [.slice A2 k2.length c2] from ⟨A2,c2,rfl,m2,r2⟩);have KR3:=zz (show (Own.arow 3 (Kd.int .i64)).K w k3 [.slice A3 k3.length c3] from ⟨A3,c3,rfl,m3,r3_⟩)
 obtain ⟨cs,hcs⟩:∃cs:List Value,cs=[.bool b0]++([.slice A1 k1.length c1]++([.slice A2 k2.length c2]++[.slice A3 k3.length c3])):=⟨_,rfl⟩
 have e_:([.bool b0,.slice A1 k1.length c1,.slice A2 k2.length c2,.slice A3 k3.length c3]:List Value)=cs:=hcs.symm
 rw [e_] at KS0 ⊢
 have Ecs:=zz hcs;have KS:=zz KS0;have Lcs:=zz (show cs.length=4 from Kd.K_len _ KS0)
 have T1:=zz t1;have T2:=zz t2;have T3:=zz t3
 clear h hcs e_ KS0 m1 r1 m2 r2 m3 r3_ t1 t2 t3
 have O:=zz (Nat.le_refl w.heap.size)
 have E:=zz (Env.start w)
 go_enter Try.func18,Try.ntmps18
 go_wp2_with (first|((with_reducible refine zm (N:=5) rfl ?_);replace O:=zz (And.intro E.out.le O.out);replace E:=zz (E.out.alloc cs 42 (g:=w.heap.size) rfl);replace E:=zz (E.out.alloc Z45 45 (g:=(w.heap.size+1)) zq52);replace E:=zz (E.out.alloc Z45 45 (g:=(w.heap.size+1+1)) zq52);refine zF rfl 4 _ rfl w.heap.size 0 [] (.bool b0) ([.slice A1 k1.length c1]++([.slice A2 k2.length c2]++[.slice A3 k3.length c3])) rfl (E.out.box 2 rfl) zq115 (rfl) Try.underlying4 rfl ?_)|((with_reducible refine zv (t:=4) (p:=6) rfl ?_);refine zda rfl 4 _ _ rfl rfl (w.heap.size+1+1) 0 (.bool b0) (.bool false) [] [.slice none 0 0,.slice none 0 0,.slice none 0 0] rfl rfl (E.out.box 0 rfl) zq13 (rfl) zq15 rfl rfl ?_;intro W1_ hp hn;replace E:=E.out.put2 0 hp hn zq19;clear hp hn)|((with_reducible refine zm (N:=8) rfl ?_);refine zF rfl 22 _ rfl w.heap.size 1 [.bool b0] (.slice A1 k1.length c1) ([.slice A2 k2.length c2]++[.slice A3 k3.length c3]) rfl (E.out.box 2 rfl) zq115 (rfl) Try.underlying22 rfl ?_))
 ((with_reducible refine (toStrings_c k k1 r1 _ (E.out.K KR1.out) T1.out).mono ?_);rintro e w2_ ⟨d3_,rfl,Md3_,hb⟩)
 have q:=E.out.made4 O.out 1 rfl Md3_ hb;clear O E Md3_ hb;obtain ⟨n4_,m5_,Ld3_,Od3_,O,E⟩:=q
 obtain ⟨B6_,e7_,hv,-⟩:=E.out.mk_ 0 rfl;injection hv with hv;subst hv
 go_wp2_with (first|((with_reducible refine zv (t:=22) (p:=10) rfl ?_);refine zda rfl 22 _ _ rfl rfl (w.heap.size+1+1) 1 (.slice B6_ r1.length e7_) (.slice none 0 0) [.bool b0] [.slice none 0 0,.slice none 0 0] rfl rfl (E.out.box 1 rfl) zq13 (rfl) zq15 rfl rfl ?_;intro W8_ hp hn;replace E:=E.out.put2 1 hp hn zq19;clear hp hn)|((with_reducible refine zm (N:=12) rfl ?_);refine zF rfl 22 _ rfl w.heap.size 2 ([.bool b0]++[.slice A1 k1.length c1]) (.slice A2 k2.length c2) [.slice A3 k3.length c3] rfl (E.out.box 3 rfl) zq115 (rfl) Try.underlying22 rfl ?_))
 ((with_reducible refine (toStrings_c k k2 r2 _ (E.out.K KR2.out) T2.out).mono ?_);rintro e w9_ ⟨d10_,rfl,Md10_,hb⟩)
 have q:=E.out.made4 O.out 1 rfl Md10_ hb;clear O E Md10_ hb;obtain ⟨n11_,m12_,Ld10_,Od10_,O,E⟩:=q
 obtain ⟨B13_,e14_,hv,-⟩:=E.out.mk_ 0 rfl;injection hv with hv;subst hv
 go_wp2_with (first|((with_reducible refine zv (t:=22) (p:=14) rfl ?_);refine zda rfl 22 _ _ rfl rfl (w.heap.size+1+1) 2 (.slice B13_ r2.length e14_) (.slice none 0 0) ([.bool b0]++[.slice B6_ r1.length e7_]) [.slice none 0 0] rfl rfl (E.out.box 2 rfl) zq13 (rfl) zq15 rfl rfl ?_;intro W15_ hp hn;replace E:=E.out.put2 2 hp hn zq19;clear hp hn)|((with_reducible refine zm (N:=16) rfl ?_);refine zF rfl 26 _ rfl w.heap.size 3 ([.bool b0]++([.slice A1 k1.length c1]++[.slice A2 k2.length c2])) (.slice A3 k3.length c3) [] rfl (E.out.box 4 rfl) zq115 (rfl) Try.underlying26 rfl ?_))
 ((with_reducible refine (toInts_c k k3 r3 _ (E.out.K KR3.out) T3.out).mono ?_);rintro e w16_ ⟨d17_,rfl,Md17_,hb⟩)
 have q:=E.out.made4 O.out 1 rfl Md17_ hb;clear O E Md17_ hb;obtain ⟨n18_,m19_,Ld17_,Od17_,O,E⟩:=q
 obtain ⟨B20_,e21_,hv,-⟩:=E.out.mk_ 0 rfl;injection hv with hv;subst hv
 go_wp2_with (first|((with_reducible refine zv (t:=26) (p:=18) rfl ?_);refine zda rfl 26 _ _ rfl rfl (w.heap.size+1+1) 3 (.slice B20_ r3.length e21_) (.slice none 0 0) ([.bool b0]++([.slice B6_ r1.length e7_]++[.slice B13_ r2.length e14_])) [] rfl rfl (E.out.box 3 rfl) zq13 (rfl) zq15 rfl rfl ?_;intro W22_ hp hn;replace E:=E.out.put2 3 hp hn zq19;clear hp hn)|((with_reducible refine zm (N:=19) rfl ?_);refine zt rfl 45 _ rfl (w.heap.size+1+1) 0 [] [.bool b0,.slice B6_ r1.length e7_,.slice B13_ r2.length e14_,.slice B20_ r3.length e21_] [] _ rfl (E.out.box 3 rfl) zq13 (rfl) Try.underlying45 rfl zq15 ?_)|((with_reducible refine zv (t:=45) (p:=2) rfl ?_);refine zB rfl 45 _ _ rfl rfl (w.heap.size+1) 0 [.bool b0,.slice B6_ r1.length e7_,.slice B13_ r2.length e14_,.slice B20_ r3.length e21_] [] Z45 [] rfl rfl (E.out.box 4 rfl) zq13 (rfl) (rfl) zq15 (onesC rfl (onesC rfl (onesC rfl (onesC rfl onesN)))) ?_;intro W23_ hp hn;replace E:=E.out.put2 4 hp hn zq19;clear hp hn))
 have BX:=zz (show _=some (Obj.cells ([.bool b0,.slice B6_ r1.length e7_,.slice B13_ r2.length e14_,.slice B20_ r3.length e21_]:List Value).toArray 45 (0,0)) from by first|exact (E.out.box 4 rfl)|simpa only [aA,aN,aL] using (E.out.box 4 rfl))
 refine bodyPost_ret (zDa rfl _ _ (w.heap.size+1) 45 _ _ _ rfl BX.out Try.underlying45 rfl zq15) rfl ?_
 exact ⟨_,rfl,(fresh (d:=kNode) (comb Mbool (comb (E.out.made 2 rfl) (comb (E.out.made 1 rfl) (E.out.made 0 rfl) (fun k h1 h2=>by have o:=O.out;(try simp only [Iv,true_and,or_false,false_or] at h1 h2)<;>omega)) (fun k h1 h2=>by have o:=O.out;(try simp only [Iv,true_and,or_false,false_or] at h1 h2)<;>omega)) (fun k h1 h2=>by have o:=O.out;(try simp only [Iv,true_and,or_false,false_or] at h1 h2)<;>omega)) (Nat.le_refl _)),E.out.below⟩
theorem zHa (k:Nat) (z q:(Bool×List ByteArray×List ByteArray×List Int)) {cs:List Value} (w:World) (h:kNode.K w z cs) (hf:ToNode k z q):
  Calls Try.prog 18 #[.agg cs.toArray] w fun e w'=>∃ds:List Value,e= .returned (.agg ds.toArray)∧kNode.M w' w.heap.size (Fr w w') q ds∧Below w.heap.size w w':=by
 obtain ⟨l0,l1,l2,l3⟩:=z
 obtain ⟨q0,q1,q2,q3⟩:=q
 obtain ⟨rfl,t1,t2,t3⟩:=hf
 exact toNode_o k _ l1 l2 l3 q1 q2 q3 w h t1 t2 t3
def EqNode (k:Nat) (z:(Bool×List ByteArray×List ByteArray×List Int)):Prop:=laws_eqNode.f k z.1 z.2.1 z.2.2.1 z.2.2.2 z.1 z.2.1 z.2.2.1 z.2.2.2=some true
theorem eqNode_c (k:Nat) (z:(Bool×List ByteArray×List ByteArray×List Int)) {cs ds:List Value} (w:World) (h:kNode.K w z cs) (h2:kNode.K w z ds) (hf:EqNode k z):
  Calls Try.prog 20 #[.agg cs.toArray,.agg ds.toArray] w fun e w'=>e= .returned (.bool true)∧Below w.heap.size w w':=by
 obtain ⟨l0,l1,l2,l3⟩:=z
 obtain ⟨A1,c1,A2,c2,A3,c3,rfl,m1,r1,m2,r2,m3,r3⟩:=zCa h
 obtain ⟨B1,d1,B2,d2,B3,d3,rfl,n1,s1,n2,s2,n3,s3⟩:=zCa h2
 exact laws_eqNode.calls k l0 A1 c1 l1 A2 c2 l2 A3 c3 l3 l0 B1 d1 l1 B2 d2 l2 B3 d3 l3 true w r1 m1 r2 m2 r3 m3 s1 n1 s2 n2 s3 n3 hf
def MarkNode (k:Nat) (z:(Bool×List ByteArray×List ByteArray×List Int)) (a:Int) (z':(Bool×List ByteArray×List ByteArray×List Int)) (r:Int):Prop:=z'.1=z.1∧laws_markNode.f k z.1 z.2.1 z.2.2.1 z.2.2.2 a=some (r,z'.2.1,z'.2.2.1,z'.2.2.2)
theorem markNode_c (k:Nat) (z:(Bool×List ByteArray×List ByteArray×List Int)) (a:Int) (z':(Bool×List ByteArray×List ByteArray×List Int)) (r:Int) (ok:Nat→Prop) {cs:List Value} (w0 w:World) (hB:Below w0.heap.size w0 w) (hk:∀k,ok k→k<w.heap.size) (h:kNode.M w w0.heap.size ok z cs) (hf:MarkNode k z a z' r):
  Calls Try.prog 21 #[.agg cs.toArray,.int .i64 a] w fun e w'=>e= .returned (.int .i64 r)∧kNode.M w' w0.heap.size ok z' cs∧Below w0.heap.size w0 w'∧Kept w w' ok:=by
 obtain ⟨l0,l1,l2,l3⟩:=z
 obtain ⟨q0,q1,q2,q3⟩:=z'
 obtain ⟨rfl,hf⟩:=hf
 obtain ⟨v1,v2,v3,P1,P2,P3,rfl,R1,R2,R3,o1,o2,o3,x12,x13,x23⟩:=kNode_openM h
 refine (laws_markNode.calls k _ P1 v1 l1 P2 v2 l2 P3 v3 l3 a r q1 q2 q3 w0 w hB R1 x12 R2 (fun k h1 h2=>x12 k h2 h1) R3 hf).mono ?_
 rintro e w' ⟨rfl,G1,G2,G3,hB1,hK1⟩
 exact ⟨rfl,kNode_mkM (Own.R_tight2 rfl G1 R1.1) (Own.R_tight2 rfl G2 R2.1) (Own.R_tight2 rfl G3 R3.1) o1 o2 o3 x12 x13 x23,hB1,hK1.mono (fun k h=>by rcases h with h|h|h;exact o1 k h;exact o2 k h;exact o3 k h)⟩
theorem textI_c (k:Nat) (z:(Bool×List ByteArray×List ByteArray×List Int)) (t:ByteArray) (b:Bool) {cs:List Value} (w:World) (h:kNode.K w z cs) (hf:impl_NodeText.f k z.1 z.2.1 z.2.2.1 z.2.2.2=some (t,b)):
  Calls Try.prog 58 #[.agg cs.toArray] w fun e w'=>e= .returned (.tuple #[.string t,.bool b])∧Below w.heap.size w w':=by
 obtain ⟨l0,l1,l2,l3⟩:=z
 obtain ⟨A1,c1,A2,c2,A3,c3,rfl,m1,r1,m2,r2,m3,r3⟩:=zCa h
 exact impl_NodeText.calls k l0 A1 c1 l1 A2 c2 l2 A3 c3 l3 t b w r1 m1 r2 m2 r3 m3 hf
theorem textS_c (k:Nat) (z:(Bool×List ByteArray×List ByteArray×List Int)) (t:ByteArray) (b:Bool) {cs:List Value} (w:World) (h:kNode.K w z cs) (hf:spec_NodeText.f k z.1 z.2.1 z.2.2.1 z.2.2.2=some (t,b)):
  Calls Try.prog 55 #[.agg cs.toArray] w fun e w'=>e= .returned (.tuple #[.string t,.bool b])∧Below w.heap.size w w':=by
 obtain ⟨l0,l1,l2,l3⟩:=z
 obtain ⟨A1,c1,A2,c2,A3,c3,rfl,m1,r1,m2,r2,m3,r3⟩:=zCa h
 exact spec_NodeText.calls k l0 A1 c1 l1 A2 c2 l2 A3 c3 l3 t b w r1 m1 r2 m2 r3 m3 hf
end Go.Proofs.Ytonhdiemjgdcnaa.PFnExactGivePage
