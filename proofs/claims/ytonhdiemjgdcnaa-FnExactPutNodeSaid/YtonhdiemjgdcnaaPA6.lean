import Derived.Test.YtonhdiemjgdcnaaPA5
import Derived.Lib.Bytes
import Derived.Lib.Strings
import Derived.Laws.Bits128
import Derived.Laws.BitsAllLaws
import Derived.Lib.SliceRun
import Derived.Shelf.Sort.Plain
import Derived.Ground.Names2Prog
import Derived.Shelf.Slices.In.SortNone
import Derived.Sort.OwnSortedInts
set_option maxHeartbeats 64000000
set_option maxRecDepth 100000
set_option linter.unusedVariables false
set_option linter.unusedSimpArgs false
namespace Go.Proofs.Ytonhdiemjgdcnaa.PFnExactGivePage
open Go.RowKit Go.Proofs.YtonhdiemjgdcnaaW.PrintWords Go.Proofs.YtonhdiemjgdcnaaW.PrintLast Go.Proofs.YtonhdiemjgdcnaaW.PrintMore
attribute [local go_sem] zO zP zY zX zK zJ zQ zR
def spec_l02Four.f (a0:Int):Option (ByteArray):=some (strOfNums (([(a0/16777216)%256,(a0/65536)%256,(a0/256)%256,(a0)%256]:List Int)))
theorem spec_l02Four.calls (a0:Int) (r:ByteArray) (w:World) (h:spec_l02Four.f a0=some r):
  Calls Try.prog 147 #[.int .u32 a0] w fun e w'=>e= .returned (.string r)∧Below w.heap.size w w':=by
 have HB:=zz (Below.refl w.heap.size w)
 have H:(some (strOfNums (([(a0/16777216)%256,(a0/65536)%256,(a0/256)%256,(a0)%256]:List Int))))=some r:=h
 clear h
 obtain ⟨y135,hy135⟩:∃y_:List Int,y_=(([(a0/16777216)%256,(a0/65536)%256,(a0/256)%256,(a0)%256]:List Int)):=⟨_,rfl⟩
 replace H:(some (strOfNums y135))=some r:=zq8 hy135
 have Ny135:=zz hy135
 clear hy135
 obtain rfl:=Option.some.inj H
 go_enter Try.func147,Try.ntmps147
 go_wp2_with (first|((with_reducible refine zm (N:=14) rfl ?_);refine Kd.R_lit (Kd.int .u8) _ 5 ?hg (N:=14) ?hd (xs:=([(a0/16777216)%256,(a0/65536)%256,(a0/256)%256,(a0)%256]:List Int)) (inner:=[.int .u8 ((a0/16777216)%256),.int .u8 ((a0/65536)%256),.int .u8 ((a0/256)%256),.int .u8 ((a0)%256)]) (ok:=fun _=>True) (okp:=fun _=>True) ?hr ?hp (fun _ hk=>hk) trivial (Below.refl _ _) (Nat.le_refl _) zq52 ?_;(case hd=>rfl);(case hg=>rfl);(case hr=>first|(go_simp;done)|(go_simp;rfl));(case hp=>exact (Reps.one (show Kd.M (Kd.int .u8) _ _ _ ((a0/16777216)%256) [.int .u8 ((a0/16777216)%256)] from rfl) (Reps.one (show Kd.M (Kd.int .u8) _ _ _ ((a0/65536)%256) [.int .u8 ((a0/65536)%256)] from rfl) (Reps.one (show Kd.M (Kd.int .u8) _ _ _ ((a0/256)%256) [.int .u8 ((a0/256)%256)] from rfl) (Reps.one (show Kd.M (Kd.int .u8) _ _ _ ((a0)%256) [.int .u8 ((a0)%256)] from rfl) (Reps.none _ _))))));intro v136 w2 ho3 hb hg_ hnew_;clear hg_ hnew_;(first|rw [←Ny135.out] at ho3|(simp only [Int.reduceToNat] at ho3;rw [←Ny135.out] at ho3));have n0_:=zz (Kd.R_lower ho3 (zc zq2));have n1_:=zz (ze zq2 hb);clear HB;have HO137:=n0_;have HB:=n1_;clear n0_ n1_;clear hb ho3;have hcv4:=zVa (P:=Try.prog) Try.underlying171 Try.underlying5 Try.underlying9 (Kd.own_of_R HO137.out)))
 go_ret
 exact ⟨zq10,by repeat (first|(with_reducible first|exact HB.out|apply zg|apply zd|apply zk)|exact HB.out)⟩
mutual
def spec_SumMore.l0:Nat→Int→ByteArray→Int→Option (Int)
 |0,_,_,_=>none
 |k+1,x0,x1,x5=>if x5<(x1.size:Int) then (if 0≤x5 then (spec_SumMore.l1 k (Go.bits .xor .u32 x0 ((bt x1 x5)%4294967296)) x1 x5 0) else (none)) else (some x0)
def spec_SumMore.l1:Nat→Int→ByteArray→Int→Int→Option (Int)
 |0,_,_,_,_=>none
 |k+1,x0,x1,x5,x6=>if x6<8 then (if (Int.tmod x0 2)=1 then (spec_SumMore.l1 k (Go.bits .xor .u32 ((Int.tdiv x0 2)%4294967296) 3558460437) x1 x5 (wrap64 (x6+1))) else (spec_SumMore.l1 k ((Int.tdiv x0 2)%4294967296) x1 x5 (wrap64 (x6+1)))) else (spec_SumMore.l0 k x0 x1 (wrap64 (x5+1)))
end
def spec_SumMore.f (k:Nat) (a0:Int) (a1:ByteArray):Option (Int):=spec_SumMore.l0 k a0 a1 0
theorem spec_SumMore.mono_l:∀k,(∀y0 y1 y2,LeO (spec_SumMore.l0 k y0 y1 y2) (spec_SumMore.l0 (k+1) y0 y1 y2))∧(∀y0 y1 y2 y3,LeO (spec_SumMore.l1 k y0 y1 y2 y3) (spec_SumMore.l1 (k+1) y0 y1 y2 y3))
 |0=>⟨fun _ _ _ r h=>by simp [spec_SumMore.l0] at h,fun _ _ _ _ r h=>by simp [spec_SumMore.l1] at h⟩
 |k+1=>by
  obtain ⟨ih0,ih1⟩:=spec_SumMore.mono_l k
  refine ⟨?_,?_⟩
  ·intro y0 y1 y2
   unfold spec_SumMore.l0
   repeat' first
   |(with_reducible exact ih0 _ _ _)
   |(with_reducible exact ih1 _ _ _ _)
   |(with_reducible exact LeO.refl _)
   |(with_reducible exact LeO.none _)
   |(with_reducible refine LeO.ite ?_ ?_)
   |(with_reducible refine LeO.bind ?_ (fun _=> ?_))
   |exact ih0 _ _ _
   |exact ih1 _ _ _ _
  ·intro y0 y1 y2 y3
   unfold spec_SumMore.l1
   repeat' first
   |(with_reducible exact ih0 _ _ _)
   |(with_reducible exact ih1 _ _ _ _)
   |(with_reducible exact LeO.refl _)
   |(with_reducible exact LeO.none _)
   |(with_reducible refine LeO.ite ?_ ?_)
   |(with_reducible refine LeO.bind ?_ (fun _=> ?_))
   |exact ih0 _ _ _
   |exact ih1 _ _ _ _
theorem spec_SumMore.mono:∀a0 a1 k,LeO (spec_SumMore.f k a0 a1) (spec_SumMore.f (k+1) a0 a1):=by
 intro a0 a1 k
 obtain ⟨ih0,ih1⟩:=spec_SumMore.mono_l k
 unfold spec_SumMore.f
 repeat' first
   |(with_reducible exact ih0 _ _ _)
   |(with_reducible exact ih1 _ _ _ _)
   |(with_reducible exact LeO.refl _)
   |(with_reducible exact LeO.none _)
   |(with_reducible refine LeO.ite ?_ ?_)
   |(with_reducible refine LeO.bind ?_ (fun _=> ?_))
   |exact ih0 _ _ _
   |exact ih1 _ _ _ _
theorem spec_SumMore.calls (k:Nat) (a0:Int) (a1:ByteArray) (r:Int) (w:World) (h:spec_SumMore.f k a0 a1=some r):
  Calls Try.prog 173 #[.int .u32 a0,.string a1] w fun e w'=>e= .returned (.int .u32 r)∧Drawn0 w w':=by
 have H:(spec_SumMore.l0 k a0 a1 0)=some r:=h
 clear h
 have H':=zz H
 clear H
 go_enter Try.func173,Try.ntmps173
 go_wp2
 go_loopg [0,5] k (fun kq v0 v5 w'=>∃(x0_1:Int) (x5_1:Int),v0= .int .u32 x0_1∧v5= .int .i64 x5_1∧Z0 (spec_SumMore.l0 kq x0_1 a1 x5_1=some r)∧Z0 (kq≤k)∧Drawn0 w w')
 case atStart=>exact ⟨(a0),(0),zq16,zq16,H',⟨Nat.le_refl _⟩,by repeat (first|exact Drawn0.refl _|apply Drawn0.step)⟩
 case round=>
  clear H'
  obtain ⟨x0_1,x5_1,rfl,rfl,HA,HK1,⟨m1,rfl⟩⟩:=hrel
  cases gk with
  |zero=>exact absurd HA.out (by simp [spec_SumMore.l0])
  |succ k1=>
   have H:=HA.out
   clear HA
   simp only [spec_SumMore.l0] at H
   by_cases c3:x5_1<(a1.size:Int)
   ·rw [if_pos c3] at H
    have c3b0:=decide_eq_true c3
    clear c3
    by_cases c4:0≤x5_1
    ·rw [if_pos c4] at H
     have c4b0:=decide_eq_true c4
     clear c4
     have H':=zz H
     clear H
     have p5:0≤(x5_1:Int):=of_decide_eq_true zq24
     have q5:x5_1<(a1.size:Int):=of_decide_eq_true zq24
     have hx5:=bt_at a1 x5_1
     replace p5:=eq_true p5
     replace q5:=eq_true q5
     go_wp2
     go_loopg [0,6] k1 (fun kq v0 v6 w'=>∃(x0_2:Int) (x6_2:Int),v0= .int .u32 x0_2∧v6= .int .i64 x6_2∧Z0 (spec_SumMore.l1 kq x0_2 a1 x5_1 x6_2=some r)∧Z0 (kq≤k1)∧Drawn0 w w')
     case atStart=>exact ⟨(Go.bits .xor .u32 x0_1 ((bt a1 x5_1)%4294967296)),(0),zq16,zq16,H',⟨Nat.le_refl _⟩,by repeat (first|exact Drawn0.refl _|apply Drawn0.step)⟩
     case round=>
      clear H'
      try clear c3
      try clear c3b0
      try clear c4
      try clear c4b0
      try clear p5
      try clear q5
      try clear hx5
      try clear p5
      try clear q5
      obtain ⟨x0_2,x6_2,rfl,rfl,HA,HK2,⟨m2,rfl⟩⟩:=hrel
      cases gk with
      |zero=>exact absurd HA.out (by simp [spec_SumMore.l1])
      |succ k2=>
       have H:=HA.out
       clear HA
       simp only [spec_SumMore.l1] at H
       by_cases c6:x6_2<8
       ·rw [if_pos c6] at H
        have c6b0:=decide_eq_true c6
        clear c6
        by_cases c7:(Int.tmod x0_2 2)=1
        ·rw [if_pos c7] at H
         have c7b0:((Int.tmod x0_2 2)==1)=true:=beq_iff_eq.mpr c7
         have c7b1:((Int.tmod x0_2 2) !=1)=false:=bne_eq_false_iff_eq.mpr c7
         clear c7
         have H':=zz H
         clear H
         go_wp2
         go_roundg k2
         case measure=>have:=HK1.out;have:=HK2.out;omega
         case rel=>exact ⟨(Go.bits .xor .u32 ((Int.tdiv x0_2 2)%4294967296) 3558460437),(wrap64 (x6_2+1)),zq16,zq16,H',⟨by have:=HK1.out;have:=HK2.out;omega⟩,by repeat (first|exact Drawn0.refl _|apply Drawn0.step)⟩
        ·rw [if_neg c7] at H
         have c7b0:((Int.tmod x0_2 2)==1)=false:=beq_eq_false_iff_ne.mpr c7
         have c7b1:((Int.tmod x0_2 2) !=1)=true:=bne_iff_ne.mpr c7
         have H':=zz H
         clear H
         go_wp2
         go_roundg k2
         case measure=>have:=HK1.out;have:=HK2.out;omega
         case rel=>exact ⟨((Int.tdiv x0_2 2)%4294967296),(wrap64 (x6_2+1)),zq16,zq16,H',⟨by have:=HK1.out;have:=HK2.out;omega⟩,by repeat (first|exact Drawn0.refl _|apply Drawn0.step)⟩
       ·rw [if_neg c6] at H
        have c6b0:=decide_eq_false c6
        clear c6
        have H':=zz H
        clear H
        go_wp2
        go_roundg k2
        case measure=>have:=HK1.out;have:=HK2.out;omega
        case rel=>exact ⟨(x0_2),(wrap64 (x5_1+1)),zq16,zq16,H',⟨by have:=HK1.out;have:=HK2.out;omega⟩,by repeat (first|exact Drawn0.refl _|apply Drawn0.step)⟩
    ·rw [if_neg c4] at H
     exact absurd H zq52
   ·rw [if_neg c3] at H
    have c3b0:=decide_eq_false c3
    clear c3
    obtain rfl:=Option.some.inj H
    go_wp2
    go_ret
    exact ⟨zq16,by repeat (first|exact Drawn0.refl _|apply Drawn0.step)⟩
def spec_SumOf.f (k:Nat) (a0:ByteArray):Option (Int):=(spec_SumMore.f k 4294967295 a0).bind fun t138=>(some t138)
theorem spec_SumOf.mono:∀a0 k,LeO (spec_SumOf.f k a0) (spec_SumOf.f (k+1) a0):=by
 intro a0 k
 unfold spec_SumOf.f
 repeat' first
   |(with_reducible exact spec_SumMore.mono _ _ _)
   |(with_reducible exact LeO.refl _)
   |(with_reducible exact LeO.none _)
   |(with_reducible refine LeO.ite ?_ ?_)
   |(with_reducible refine LeO.bind ?_ (fun _=> ?_))
   |exact spec_SumMore.mono _ _ _
theorem spec_SumOf.calls (k:Nat) (a0:ByteArray) (r:Int) (w:World) (h:spec_SumOf.f k a0=some r):
  Calls Try.prog 148 #[.string a0] w fun e w'=>e= .returned (.int .u32 r)∧Drawn0 w w':=by
 have H:((spec_SumMore.f k 4294967295 a0).bind fun t138=>(some t138))=some r:=h
 clear h
 replace H:=Option.bind_eq_some_iff.mp H
 obtain ⟨t138,A20,H⟩:=H
 replace H:(some t138)=some r:=H
 have A2:=zz A20
 clear A20
 obtain rfl:=Option.some.inj H
 go_enter Try.func148,Try.ntmps148
 go_wp2_with (first|((with_reducible refine zo (f:=173) rfl ?_);refine zw (some 4) rfl rfl Try.func173 zq15 rfl #[.int .u32 4294967295,.string a0] rfl zq4 ?_;(with_reducible refine (spec_SumMore.calls k 4294967295 a0 t138 _ A2.out).mono ?_);rintro e w' ⟨rfl,⟨nd,rfl⟩⟩;refine ⟨_,rfl,?_⟩))
 go_ret
 exact ⟨zq16,by repeat (first|exact Drawn0.refl _|apply Drawn0.step)⟩
def spec_Sealed.f (k:Nat) (a0:ByteArray):Option (ByteArray×Bool):=if (a0.size:Int)>20000 then (some ((⟨#[]⟩:ByteArray),false)) else ((spec_SumOf.f k a0).bind fun t139=>((spec_l02Four.f t139).bind fun t140=>(if a0.size+t140.size≤9223372036854775807 then (some (a0++t140,true)) else (none))))
theorem spec_Sealed.mono:∀a0 k,LeO (spec_Sealed.f k a0) (spec_Sealed.f (k+1) a0):=by
 intro a0 k
 unfold spec_Sealed.f
 repeat' first
   |(with_reducible exact spec_SumOf.mono _ _)
   |(with_reducible exact LeO.refl _)
   |(with_reducible exact LeO.none _)
   |(with_reducible refine LeO.ite ?_ ?_)
   |(with_reducible refine LeO.bind ?_ (fun _=> ?_))
   |exact spec_SumOf.mono _ _
theorem spec_Sealed.calls (k:Nat) (a0:ByteArray) (r1:ByteArray) (r2:Bool) (w:World) (h:spec_Sealed.f k a0=some (r1,r2)):
  Calls Try.prog 106 #[.string a0] w fun e w'=>e= .returned (.tuple #[.string r1,.bool r2])∧Below w.heap.size w w':=by
 have HB:=zz (Below.refl w.heap.size w)
 have H:(if (a0.size:Int)>20000 then (some ((⟨#[]⟩:ByteArray),false)) else ((spec_SumOf.f k a0).bind fun t139=>((spec_l02Four.f t139).bind fun t140=>(if a0.size+t140.size≤9223372036854775807 then (some (a0++t140,true)) else (none)))))=some (r1,r2):=h
 clear h
 by_cases c2:(a0.size:Int)>20000
 ·rw [if_pos c2] at H
  have c2b0:decide (20000<(a0.size:Int))=true:=decide_eq_true c2
  have c2b1:decide (20000<a0.size)=true:=decide_eq_true zq11
  clear c2
  simp only [Option.some.injEq,Prod.mk.injEq] at H
  obtain ⟨rfl,rfl⟩:=H
  go_enter Try.func106,Try.ntmps106
  go_wp2
  go_ret2
  exact ⟨zq10,by repeat (first|(with_reducible first|exact HB.out|apply zg|apply zd|apply zk)|exact HB.out)⟩
 ·rw [if_neg c2] at H
  have c2b0:decide (20000<(a0.size:Int))=false:=decide_eq_false c2
  have c2b1:decide (20000<a0.size)=false:=decide_eq_false zq11
  clear c2
  replace H:=Option.bind_eq_some_iff.mp H
  obtain ⟨t139,A30,H⟩:=H
  replace H:((spec_l02Four.f t139).bind fun t140=>(if a0.size+t140.size≤9223372036854775807 then (some (a0++t140,true)) else (none)))=some (r1,r2):=H
  have A3:=zz A30
  clear A30
  replace H:=Option.bind_eq_some_iff.mp H
  obtain ⟨t140,A40,H⟩:=H
  replace H:(if a0.size+t140.size≤9223372036854775807 then (some (a0++t140,true)) else (none))=some (r1,r2):=H
  have A4:=zz A40
  clear A40
  by_cases c5:a0.size+t140.size≤9223372036854775807
  ·rw [if_pos c5] at H
   have c5b0:=eq_true c5
   have c5b1:=decide_eq_true c5
   try have c5b2:(9223372036854775807<a0.size+t140.size)=False:=eq_false (Nat.not_lt.2 c5)
   simp only [Option.some.injEq,Prod.mk.injEq] at H
   obtain ⟨rfl,rfl⟩:=H
   go_enter Try.func106,Try.ntmps106
   go_wp2_with (first|((with_reducible refine zo (f:=148) rfl ?_);refine zw (some 9) rfl rfl Try.func148 zq15 rfl #[.string a0] rfl zq4 ?_;(with_reducible refine (spec_SumOf.calls k a0 t139 _ A3.out).mono ?_);rintro e w' ⟨rfl,⟨nd,rfl⟩⟩;refine ⟨_,rfl,?_⟩)|((with_reducible refine zo (f:=147) rfl ?_);refine zw (some 10) rfl rfl Try.func147 zq15 rfl #[.int .u32 t139] rfl zq4 ?_;(with_reducible refine (spec_l02Four.calls t139 t140 _ A4.out).mono ?_);rintro e w6 ⟨rfl,hb⟩;refine ⟨_,rfl,?_⟩;have n0_:=zz (ze zq2 hb);clear HB;have HB:=n0_;clear n0_;(try clear hb);(try clear hb2);(try clear hk);(try clear hi)))
   go_ret2
   exact ⟨zq10,by repeat (first|(with_reducible first|exact HB.out|apply zg|apply zd|apply zk)|exact HB.out)⟩
  ·rw [if_neg c5] at H
   exact absurd H zq52
def spec_l01Var.l0:Nat→Int→List Int→Option (ByteArray)
 |0,_,_=>none
 |k+1,x0,x3=>if x0>127 then (if x3.length<140737488355328 then (spec_l01Var.l0 k (wrap64 (Int.tdiv x0 128)) (x3++[(wrap64 ((Int.tmod x0 128)+128))%256])) else (none)) else (if x3.length<140737488355328 then (some (strOfNums (x3++[(x0)%256]))) else (none))
def spec_l01Var.f (k:Nat) (a0:Int):Option (ByteArray):=spec_l01Var.l0 k a0 (([]:List Int))
theorem spec_l01Var.mono_l:∀k,(∀y0 y1,LeO (spec_l01Var.l0 k y0 y1) (spec_l01Var.l0 (k+1) y0 y1))
 |0=>fun _ _ r h=>by simp [spec_l01Var.l0] at h
 |k+1=>by
  have ih0:=spec_l01Var.mono_l k
  ·intro y0 y1
   unfold spec_l01Var.l0
   repeat' first
   |(with_reducible exact ih0 _ _)
   |(with_reducible exact LeO.refl _)
   |(with_reducible exact LeO.none _)
   |(with_reducible refine LeO.ite ?_ ?_)
   |(with_reducible refine LeO.bind ?_ (fun _=> ?_))
   |exact ih0 _ _
theorem spec_l01Var.mono:∀a0 k,LeO (spec_l01Var.f k a0) (spec_l01Var.f (k+1) a0):=by
 intro a0 k
 have ih0:=spec_l01Var.mono_l k
 unfold spec_l01Var.f
 repeat' first
   |(with_reducible exact ih0 _ _)
   |(with_reducible exact LeO.refl _)
   |(with_reducible exact LeO.none _)
   |(with_reducible refine LeO.ite ?_ ?_)
   |(with_reducible refine LeO.bind ?_ (fun _=> ?_))
   |exact ih0 _ _
theorem spec_l01Var.calls (k:Nat) (a0:Int) (r:ByteArray) (w:World) (h:spec_l01Var.f k a0=some r):
  Calls Try.prog 139 #[.int .i64 a0] w fun e w'=>e= .returned (.string r)∧Below w.heap.size w w':=by
 have HB:=zz (Below.refl w.heap.size w)
 have H:(spec_l01Var.l0 k a0 (([]:List Int)))=some r:=h
 clear h
 obtain ⟨y170,hy170⟩:∃y_:List Int,y_=(([]:List Int)):=⟨_,rfl⟩
 replace H:(spec_l01Var.l0 k a0 y170)=some r:=zq8 hy170
 have Ny170:=zz hy170
 clear hy170
 have H':=zz H
 clear H
 go_enter Try.func139,Try.ntmps139
 go_wp2_with (first|((with_reducible refine zm (N:=4) rfl ?_);refine Kd.R_lit (Kd.int .u8) _ 5 ?hg (N:=4) ?hd (xs:=([]:List Int)) (inner:=[]) (ok:=fun _=>True) (okp:=fun _=>True) ?hr ?hp (fun _ hk=>hk) trivial (Below.refl _ _) (Nat.le_refl _) zq52 ?_;(case hd=>rfl);(case hg=>rfl);(case hr=>first|(go_simp;done)|(go_simp;rfl));(case hp=>exact (Reps.none _ _));intro v171 w2 ho3 hb hg_ hnew_;clear hg_ hnew_;(first|rw [←Ny170.out] at ho3|(simp only [Int.reduceToNat] at ho3;rw [←Ny170.out] at ho3));have n0_:=zz (Kd.R_lower ho3 (zc zq2));have n1_:=zz (ze zq2 hb);clear HB;have HO172:=n0_;have HB:=n1_;clear n0_ n1_;clear hb ho3))
 go_loopg [0,3] k (fun kq v0 v3 w'=>∃(x0_1:Int) (x3_1:List Int),v0= .int .i64 x0_1∧Z0 (spec_l01Var.l0 kq x0_1 x3_1=some r)∧Z0 (kq≤k)∧Z0 (Kd.R (Kd.int .u8) 5 w' w.heap.size (fun _=>True) v3 x3_1)∧Z0 (Below w.heap.size w w'))
 case atStart=>exact ⟨(a0),(y170),zq16,H',⟨Nat.le_refl _⟩,⟨by (with_reducible repeat (first|apply Kd.R_alloc|apply Kd.R_drewN|apply Kd.R_drew));exact HO172.out⟩,⟨by repeat (first|(with_reducible first|exact HB.out|apply zg|apply zd|apply zk)|exact HB.out)⟩⟩
 case round=>
  clear H'
  obtain ⟨x0_1,x3_1,rfl,HA,HK1,HO_3,HB⟩:=hrel
  cases gk with
  |zero=>exact absurd HA.out (by simp [spec_l01Var.l0])
  |succ k1=>
   have H:=HA.out
   clear HA
   simp only [spec_l01Var.l0] at H
   by_cases c4:x0_1>127
   ·rw [if_pos c4] at H
    have c4b0:decide (127<x0_1)=true:=decide_eq_true c4
    clear c4
    by_cases c5:x3_1.length<140737488355328
    ·rw [if_pos c5] at H
     have LMc5:=zz c5
     clear c5
     obtain ⟨y173,hy173⟩:∃y_:List Int,y_=(x3_1++[(wrap64 ((Int.tmod x0_1 128)+128))%256]):=⟨_,rfl⟩
     replace H:(spec_l01Var.l0 k1 (wrap64 (Int.tdiv x0_1 128)) y173)=some r:=zq8 hy173
     have Ny173:=zz hy173
     clear hy173
     have H':=zz H
     clear H
     go_wp2_with (first|((with_reducible refine zT (b:= .append) (xs:= #[.tmp 7,.tmp 12]) rfl ?_);at_builtin;refine Kd.R_append (Kd.int .u8) (w0:=w) w.heap.size rfl (.tmp 7) (.tmp 12) 171 5 (.int .u8 0) 1 rfl Try.underlying171 info5 rfl zq26 zq11 u3 x3_1 ((wrap64 ((Int.tmod x0_1 128)+128))%256) [.int .u8 ((wrap64 ((Int.tmod x0_1 128)+128))%256)] (fun _=>True) (fun _=>False) rfl rfl ?aP (fun _ hk=>hk.elim) ?aF ?aO ?aB ?aS ?aL ?_;(case aP=>exact rfl);(case aB=>exact zq2);(case aF=>exact (fun _ _=>trivial));(case aO=>exact (zq5 HO_3.out));(case aS=>exact (zc zq2));(case aL=>have:=LMc5.out;omega);intro v174 w6 ho hb hg hat;rw [←Ny173.out] at ho;have n0_:=zz (hb);have n1_:=zz (ho);clear HB;clear HO_3;have HB:=n0_;have HO175:=n1_;clear n0_ n1_;clear ho hb hg hat))
     go_roundg k1
     case measure=>have:=HK1.out;omega
     case rel=>exact ⟨(wrap64 (Int.tdiv x0_1 128)),(y173),zq16,H',⟨zq95 HK1.out⟩,⟨by (with_reducible repeat (first|apply Kd.R_alloc|apply Kd.R_drewN|apply Kd.R_drew));exact HO175.out⟩,⟨by repeat (first|(with_reducible first|exact HB.out|apply zg|apply zd|apply zk)|exact HB.out)⟩⟩
    ·rw [if_neg c5] at H
     exact absurd H zq52
   ·rw [if_neg c4] at H
    have c4b0:decide (127<x0_1)=false:=decide_eq_false c4
    clear c4
    by_cases c7:x3_1.length<140737488355328
    ·rw [if_pos c7] at H
     have LMc7:=zz c7
     clear c7
     obtain ⟨y176,hy176⟩:∃y_:List Int,y_=(x3_1++[(x0_1)%256]):=⟨_,rfl⟩
     replace H:(some (strOfNums y176))=some r:=zq8 hy176
     have Ny176:=zz hy176
     clear hy176
     obtain rfl:=Option.some.inj H
     go_wp2_with (first|((with_reducible refine zT (b:= .append) (xs:= #[.tmp 16,.tmp 19]) rfl ?_);at_builtin;refine Kd.R_append (Kd.int .u8) (w0:=w) w.heap.size rfl (.tmp 16) (.tmp 19) 171 5 (.int .u8 0) 1 rfl Try.underlying171 info5 rfl zq26 zq11 u3 x3_1 ((x0_1)%256) [.int .u8 ((x0_1)%256)] (fun _=>True) (fun _=>False) rfl rfl ?aP (fun _ hk=>hk.elim) ?aF ?aO ?aB ?aS ?aL ?_;(case aP=>exact rfl);(case aB=>exact zq2);(case aF=>exact (fun _ _=>trivial));(case aO=>exact (zq5 HO_3.out));(case aS=>exact (zc zq2));(case aL=>have:=LMc7.out;omega);intro v177 w8 ho hb hg hat;rw [←Ny176.out] at ho;have n0_:=zz (hb);have n1_:=zz (ho);clear HB;clear HO_3;have HB:=n0_;have HO178:=n1_;clear n0_ n1_;clear ho hb hg hat;have hcv9:=zVa (P:=Try.prog) Try.underlying171 Try.underlying5 Try.underlying9 (Kd.own_of_R HO178.out)))
     go_ret
     exact ⟨zq10,by repeat (first|(with_reducible first|exact HB.out|apply zg|apply zd|apply zk)|exact HB.out)⟩
    ·rw [if_neg c7] at H
     exact absurd H zq52
mutual
def impl_SumMore.l0:Nat→Int→ByteArray→Int→Int→Option (Int)
 |0,_,_,_,_=>none
 |k+1,x0,x1,x8,x9=>if x9<x8 then (if 0≤x9 then (if x9<(x1.size:Int) then (impl_SumMore.l1 k (Go.bits .xor .u32 x0 ((bt x1 x9)%4294967296)) x1 x8 x9 0) else (none)) else (none)) else (some x0)
def impl_SumMore.l1:Nat→Int→ByteArray→Int→Int→Int→Option (Int)
 |0,_,_,_,_,_=>none
 |k+1,x0,x1,x8,x9,x18=>if x18<8 then (if (Go.bits .and .u32 x0 1)=1 then (impl_SumMore.l1 k (Go.bits .xor .u32 (x0/2) 3558460437) x1 x8 x9 (wrap64 (x18+1))) else (impl_SumMore.l1 k (x0/2) x1 x8 x9 (wrap64 (x18+1)))) else (impl_SumMore.l0 k x0 x1 x8 (wrap64 (x9+1)))
end
def impl_SumMore.f (k:Nat) (a0:Int) (a1:ByteArray):Option (Int):=impl_SumMore.l0 k a0 a1 (a1.size:Int) 0
theorem impl_SumMore.mono_l:∀k,(∀y0 y1 y2 y3,LeO (impl_SumMore.l0 k y0 y1 y2 y3) (impl_SumMore.l0 (k+1) y0 y1 y2 y3))∧(∀y0 y1 y2 y3 y4,LeO (impl_SumMore.l1 k y0 y1 y2 y3 y4) (impl_SumMore.l1 (k+1) y0 y1 y2 y3 y4))
 |0=>⟨fun _ _ _ _ r h=>by simp [impl_SumMore.l0] at h,fun _ _ _ _ _ r h=>by simp [impl_SumMore.l1] at h⟩
 |k+1=>by
  obtain ⟨ih0,ih1⟩:=impl_SumMore.mono_l k
  refine ⟨?_,?_⟩
  ·intro y0 y1 y2 y3
   unfold impl_SumMore.l0
   repeat' first
   |(with_reducible exact ih0 _ _ _ _)
   |(with_reducible exact ih1 _ _ _ _ _)
   |(with_reducible exact LeO.refl _)
   |(with_reducible exact LeO.none _)
   |(with_reducible refine LeO.ite ?_ ?_)
   |(with_reducible refine LeO.bind ?_ (fun _=> ?_))
   |exact ih0 _ _ _ _
   |exact ih1 _ _ _ _ _
  ·intro y0 y1 y2 y3 y4
   unfold impl_SumMore.l1
   repeat' first
   |(with_reducible exact ih0 _ _ _ _)
   |(with_reducible exact ih1 _ _ _ _ _)
   |(with_reducible exact LeO.refl _)
   |(with_reducible exact LeO.none _)
   |(with_reducible refine LeO.ite ?_ ?_)
   |(with_reducible refine LeO.bind ?_ (fun _=> ?_))
   |exact ih0 _ _ _ _
   |exact ih1 _ _ _ _ _
theorem impl_SumMore.mono:∀a0 a1 k,LeO (impl_SumMore.f k a0 a1) (impl_SumMore.f (k+1) a0 a1):=by
 intro a0 a1 k
 obtain ⟨ih0,ih1⟩:=impl_SumMore.mono_l k
 unfold impl_SumMore.f
 repeat' first
   |(with_reducible exact ih0 _ _ _ _)
   |(with_reducible exact ih1 _ _ _ _ _)
   |(with_reducible exact LeO.refl _)
   |(with_reducible exact LeO.none _)
   |(with_reducible refine LeO.ite ?_ ?_)
   |(with_reducible refine LeO.bind ?_ (fun _=> ?_))
   |exact ih0 _ _ _ _
   |exact ih1 _ _ _ _ _
theorem impl_SumMore.calls (k:Nat) (a0:Int) (a1:ByteArray) (r:Int) (w:World) (h:impl_SumMore.f k a0 a1=some r):
  Calls Try.prog 183 #[.int .u32 a0,.string a1] w fun e w'=>e= .returned (.int .u32 r)∧Drawn0 w w':=by
 have H:(impl_SumMore.l0 k a0 a1 (a1.size:Int) 0)=some r:=h
 clear h
 have H':=zz H
 clear H
 go_enter Try.func183,Try.ntmps183
 go_wp2
 go_loopg [0,9] k (fun kq v0 v9 w'=>∃(x0_1:Int) (x9_1:Int),v0= .int .u32 x0_1∧v9= .int .i64 x9_1∧Z0 (impl_SumMore.l0 kq x0_1 a1 (a1.size:Int) x9_1=some r)∧Z0 (kq≤k)∧Drawn0 w w')
 case atStart=>exact ⟨(a0),(0),zq16,zq16,H',⟨Nat.le_refl _⟩,by repeat (first|exact Drawn0.refl _|apply Drawn0.step)⟩
 case round=>
  clear H'
  obtain ⟨x0_1,x9_1,rfl,rfl,HA,HK1,⟨m1,rfl⟩⟩:=hrel
  cases gk with
  |zero=>exact absurd HA.out (by simp [impl_SumMore.l0])
  |succ k1=>
   have H:=HA.out
   clear HA
   simp only [impl_SumMore.l0] at H
   by_cases c3:x9_1<(a1.size:Int)
   ·rw [if_pos c3] at H
    have c3b0:=decide_eq_true c3
    clear c3
    by_cases c4:0≤x9_1
    ·rw [if_pos c4] at H
     have c4b0:=decide_eq_true c4
     clear c4
     by_cases c5:x9_1<(a1.size:Int)
     ·rw [if_pos c5] at H
      have c5b0:=decide_eq_true c5
      clear c5
      have H':=zz H
      clear H
      have p6:0≤(x9_1:Int):=of_decide_eq_true zq24
      have q6:x9_1<(a1.size:Int):=of_decide_eq_true zq24
      have hx6:=bt_at a1 x9_1
      replace p6:=eq_true p6
      replace q6:=eq_true q6
      go_wp2
      go_loopg [0,18] k1 (fun kq v0 v18 w'=>∃(x0_2:Int) (x18_2:Int),v0= .int .u32 x0_2∧v18= .int .i64 x18_2∧Z0 (impl_SumMore.l1 kq x0_2 a1 (a1.size:Int) x9_1 x18_2=some r)∧Z0 (kq≤k1)∧Drawn0 w w')
      case atStart=>exact ⟨(Go.bits .xor .u32 x0_1 ((bt a1 x9_1)%4294967296)),(0),zq16,zq16,H',⟨Nat.le_refl _⟩,by repeat (first|exact Drawn0.refl _|apply Drawn0.step)⟩
      case round=>
       clear H'
       try clear c3
       try clear c3b0
       try clear c4
       try clear c4b0
       try clear c5
       try clear c5b0
       try clear p6
       try clear q6
       try clear hx6
       try clear p6
       try clear q6
       obtain ⟨x0_2,x18_2,rfl,rfl,HA,HK2,⟨m2,rfl⟩⟩:=hrel
       cases gk with
       |zero=>exact absurd HA.out (by simp [impl_SumMore.l1])
       |succ k2=>
        have H:=HA.out
        clear HA
        simp only [impl_SumMore.l1] at H
        by_cases c7:x18_2<8
        ·rw [if_pos c7] at H
         have c7b0:=decide_eq_true c7
         clear c7
         by_cases c8:(Go.bits .and .u32 x0_2 1)=1
         ·rw [if_pos c8] at H
          have c8b0:((Go.bits .and .u32 x0_2 1)==1)=true:=beq_iff_eq.mpr c8
          have c8b1:((Go.bits .and .u32 x0_2 1) !=1)=false:=bne_eq_false_iff_eq.mpr c8
          clear c8
          have H':=zz H
          clear H
          go_wp2
          go_roundg k2
          case measure=>have:=HK1.out;have:=HK2.out;omega
          case rel=>exact ⟨(Go.bits .xor .u32 (x0_2/2) 3558460437),(wrap64 (x18_2+1)),zq16,zq16,H',⟨by have:=HK1.out;have:=HK2.out;omega⟩,by repeat (first|exact Drawn0.refl _|apply Drawn0.step)⟩
         ·rw [if_neg c8] at H
          have c8b0:((Go.bits .and .u32 x0_2 1)==1)=false:=beq_eq_false_iff_ne.mpr c8
          have c8b1:((Go.bits .and .u32 x0_2 1) !=1)=true:=bne_iff_ne.mpr c8
          have H':=zz H
          clear H
          go_wp2
          go_roundg k2
          case measure=>have:=HK1.out;have:=HK2.out;omega
          case rel=>exact ⟨(x0_2/2),(wrap64 (x18_2+1)),zq16,zq16,H',⟨by have:=HK1.out;have:=HK2.out;omega⟩,by repeat (first|exact Drawn0.refl _|apply Drawn0.step)⟩
        ·rw [if_neg c7] at H
         have c7b0:=decide_eq_false c7
         clear c7
         have H':=zz H
         clear H
         go_wp2
         go_roundg k2
         case measure=>have:=HK1.out;have:=HK2.out;omega
         case rel=>exact ⟨(x0_2),(wrap64 (x9_1+1)),zq16,zq16,H',⟨by have:=HK1.out;have:=HK2.out;omega⟩,by repeat (first|exact Drawn0.refl _|apply Drawn0.step)⟩
     ·rw [if_neg c5] at H
      exact absurd H zq52
    ·rw [if_neg c4] at H
     exact absurd H zq52
   ·rw [if_neg c3] at H
    have c3b0:=decide_eq_false c3
    clear c3
    obtain rfl:=Option.some.inj H
    go_wp2
    go_ret
    exact ⟨zq16,by repeat (first|exact Drawn0.refl _|apply Drawn0.step)⟩
def impl_SumOf.f (k:Nat) (a0:ByteArray):Option (Int):=(impl_SumMore.f k 4294967295 a0).bind fun t459=>(some t459)
theorem impl_SumOf.mono:∀a0 k,LeO (impl_SumOf.f k a0) (impl_SumOf.f (k+1) a0):=by
 intro a0 k
 unfold impl_SumOf.f
 repeat' first
   |(with_reducible exact impl_SumMore.mono _ _ _)
   |(with_reducible exact LeO.refl _)
   |(with_reducible exact LeO.none _)
   |(with_reducible refine LeO.ite ?_ ?_)
   |(with_reducible refine LeO.bind ?_ (fun _=> ?_))
   |exact impl_SumMore.mono _ _ _
theorem impl_SumOf.calls (k:Nat) (a0:ByteArray) (r:Int) (w:World) (h:impl_SumOf.f k a0=some r):
  Calls Try.prog 172 #[.string a0] w fun e w'=>e= .returned (.int .u32 r)∧Drawn0 w w':=by
 have H:((impl_SumMore.f k 4294967295 a0).bind fun t459=>(some t459))=some r:=h
 clear h
 replace H:=Option.bind_eq_some_iff.mp H
 obtain ⟨t459,A20,H⟩:=H
 replace H:(some t459)=some r:=H
 have A2:=zz A20
 clear A20
 obtain rfl:=Option.some.inj H
 go_enter Try.func172,Try.ntmps172
 go_wp2_with (first|((with_reducible refine zo (f:=183) rfl ?_);refine zw (some 4) rfl rfl Try.func183 zq15 rfl #[.int .u32 4294967295,.string a0] rfl zq4 ?_;(with_reducible refine (impl_SumMore.calls k 4294967295 a0 t459 _ A2.out).mono ?_);rintro e w' ⟨rfl,⟨nd,rfl⟩⟩;refine ⟨_,rfl,?_⟩))
 go_ret
 exact ⟨zq16,by repeat (first|exact Drawn0.refl _|apply Drawn0.step)⟩
def impl_seal.f (k:Nat) (a0:ByteArray):Option (ByteArray):=(impl_SumOf.f k a0).bind fun t460=>(some (strOfNums (([(t460/16777216)%256,(t460/65536)%256,(t460/256)%256,(t460)%256]:List Int))))
theorem impl_seal.mono:∀a0 k,LeO (impl_seal.f k a0) (impl_seal.f (k+1) a0):=by
 intro a0 k
 unfold impl_seal.f
 repeat' first
   |(with_reducible exact impl_SumOf.mono _ _)
   |(with_reducible exact LeO.refl _)
   |(with_reducible exact LeO.none _)
   |(with_reducible refine LeO.ite ?_ ?_)
   |(with_reducible refine LeO.bind ?_ (fun _=> ?_))
   |exact impl_SumOf.mono _ _
theorem impl_seal.calls (k:Nat) (a0:ByteArray) (r:ByteArray) (w:World) (h:impl_seal.f k a0=some r):
  Calls Try.prog 145 #[.string a0] w fun e w'=>e= .returned (.string r)∧Below w.heap.size w w':=by
 have HB:=zz (Below.refl w.heap.size w)
 have H:((impl_SumOf.f k a0).bind fun t460=>(some (strOfNums (([(t460/16777216)%256,(t460/65536)%256,(t460/256)%256,(t460)%256]:List Int)))))=some r:=h
 clear h
 replace H:=Option.bind_eq_some_iff.mp H
 obtain ⟨t460,A20,H⟩:=H
 replace H:(some (strOfNums (([(t460/16777216)%256,(t460/65536)%256,(t460/256)%256,(t460)%256]:List Int))))=some r:=H
 have A2:=zz A20
 clear A20
 obtain ⟨y461,hy461⟩:∃y_:List Int,y_=(([(t460/16777216)%256,(t460/65536)%256,(t460/256)%256,(t460)%256]:List Int)):=⟨_,rfl⟩
 replace H:(some (strOfNums y461))=some r:=zq8 hy461
 have Ny461:=zz hy461
 clear hy461
 obtain rfl:=Option.some.inj H
 go_enter Try.func145,Try.ntmps145
 go_wp2_with (first|((with_reducible refine zo (f:=172) rfl ?_);refine zw (some 5) rfl rfl Try.func172 zq15 rfl #[.string a0] rfl zq4 ?_;(with_reducible refine (impl_SumOf.calls k a0 t460 _ A2.out).mono ?_);rintro e w' ⟨rfl,⟨nd,rfl⟩⟩;refine ⟨_,rfl,?_⟩)|((with_reducible refine zm (N:=17) rfl ?_);refine Kd.R_lit (Kd.int .u8) _ 5 ?hg (N:=17) ?hd (xs:=([(t460/16777216)%256,(t460/65536)%256,(t460/256)%256,(t460)%256]:List Int)) (inner:=[.int .u8 ((t460/16777216)%256),.int .u8 ((t460/65536)%256),.int .u8 ((t460/256)%256),.int .u8 ((t460)%256)]) (ok:=fun _=>True) (okp:=fun _=>True) ?hr ?hp (fun _ hk=>hk) trivial (Below.refl _ _) (Nat.le_refl _) zq52 ?_;(case hd=>rfl);(case hg=>rfl);(case hr=>first|(go_simp;done)|(go_simp;rfl));(case hp=>exact (Reps.one (show Kd.M (Kd.int .u8) _ _ _ ((t460/16777216)%256) [.int .u8 ((t460/16777216)%256)] from rfl) (Reps.one (show Kd.M (Kd.int .u8) _ _ _ ((t460/65536)%256) [.int .u8 ((t460/65536)%256)] from rfl) (Reps.one (show Kd.M (Kd.int .u8) _ _ _ ((t460/256)%256) [.int .u8 ((t460/256)%256)] from rfl) (Reps.one (show Kd.M (Kd.int .u8) _ _ _ ((t460)%256) [.int .u8 ((t460)%256)] from rfl) (Reps.none _ _))))));intro v462 w3 ho4 hb hg_ hnew_;clear hg_ hnew_;(first|rw [←Ny461.out] at ho4|(simp only [Int.reduceToNat] at ho4;rw [←Ny461.out] at ho4));have n0_:=zz (Kd.R_lower ho4 (zc zq2));have n1_:=zz (ze zq2 hb);clear HB;have HO463:=n0_;have HB:=n1_;clear n0_ n1_;clear hb ho4;have hcv5:=zVa (P:=Try.prog) Try.underlying171 Try.underlying5 Try.underlying9 (Kd.own_of_R HO463.out)))
 go_ret
 exact ⟨zq10,by repeat (first|(with_reducible first|exact HB.out|apply zg|apply zd|apply zk)|exact HB.out)⟩
def impl_varText.l0:Nat→Int→List Int→Option (ByteArray)
 |0,_,_=>none
 |k+1,x0,x3=>if x0>127 then (if x3.length<140737488355328 then (impl_varText.l0 k (x0/128) (x3++[(Go.bits .or .i64 (Go.bits .and .i64 x0 127) 128)%256])) else (none)) else (if x3.length<140737488355328 then (some (strOfNums (x3++[(x0)%256]))) else (none))
def impl_varText.f (k:Nat) (a0:Int):Option (ByteArray):=impl_varText.l0 k a0 (([]:List Int))
theorem impl_varText.mono_l:∀k,(∀y0 y1,LeO (impl_varText.l0 k y0 y1) (impl_varText.l0 (k+1) y0 y1))
 |0=>fun _ _ r h=>by simp [impl_varText.l0] at h
 |k+1=>by
  have ih0:=impl_varText.mono_l k
  ·intro y0 y1
   unfold impl_varText.l0
   repeat' first
   |(with_reducible exact ih0 _ _)
   |(with_reducible exact LeO.refl _)
   |(with_reducible exact LeO.none _)
   |(with_reducible refine LeO.ite ?_ ?_)
   |(with_reducible refine LeO.bind ?_ (fun _=> ?_))
   |exact ih0 _ _
theorem impl_varText.mono:∀a0 k,LeO (impl_varText.f k a0) (impl_varText.f (k+1) a0):=by
 intro a0 k
 have ih0:=impl_varText.mono_l k
 unfold impl_varText.f
 repeat' first
   |(with_reducible exact ih0 _ _)
   |(with_reducible exact LeO.refl _)
   |(with_reducible exact LeO.none _)
   |(with_reducible refine LeO.ite ?_ ?_)
   |(with_reducible refine LeO.bind ?_ (fun _=> ?_))
   |exact ih0 _ _
theorem impl_varText.calls (k:Nat) (a0:Int) (r:ByteArray) (w:World) (h:impl_varText.f k a0=some r):
  Calls Try.prog 110 #[.int .i64 a0] w fun e w'=>e= .returned (.string r)∧Below w.heap.size w w':=by
 have HB:=zz (Below.refl w.heap.size w)
 have H:(impl_varText.l0 k a0 (([]:List Int)))=some r:=h
 clear h
 obtain ⟨y426,hy426⟩:∃y_:List Int,y_=(([]:List Int)):=⟨_,rfl⟩
 replace H:(impl_varText.l0 k a0 y426)=some r:=zq8 hy426
 have Ny426:=zz hy426
 clear hy426
 have H':=zz H
 clear H
 go_enter Try.func110,Try.ntmps110
 go_wp2_with (first|((with_reducible refine zm (N:=4) rfl ?_);refine Kd.R_lit (Kd.int .u8) _ 5 ?hg (N:=4) ?hd (xs:=([]:List Int)) (inner:=[]) (ok:=fun _=>True) (okp:=fun _=>True) ?hr ?hp (fun _ hk=>hk) trivial (Below.refl _ _) (Nat.le_refl _) zq52 ?_;(case hd=>rfl);(case hg=>rfl);(case hr=>first|(go_simp;done)|(go_simp;rfl));(case hp=>exact (Reps.none _ _));intro v427 w2 ho3 hb hg_ hnew_;clear hg_ hnew_;(first|rw [←Ny426.out] at ho3|(simp only [Int.reduceToNat] at ho3;rw [←Ny426.out] at ho3));have n0_:=zz (Kd.R_lower ho3 (zc zq2));have n1_:=zz (ze zq2 hb);clear HB;have HO428:=n0_;have HB:=n1_;clear n0_ n1_;clear hb ho3))
 go_loopg [0,3] k (fun kq v0 v3 w'=>∃(x0_1:Int) (x3_1:List Int),v0= .int .i64 x0_1∧Z0 (impl_varText.l0 kq x0_1 x3_1=some r)∧Z0 (kq≤k)∧Z0 (Kd.R (Kd.int .u8) 5 w' w.heap.size (fun _=>True) v3 x3_1)∧Z0 (Below w.heap.size w w'))
 case atStart=>exact ⟨(a0),(y426),zq16,H',⟨Nat.le_refl _⟩,⟨by (with_reducible repeat (first|apply Kd.R_alloc|apply Kd.R_drewN|apply Kd.R_drew));exact HO428.out⟩,⟨by repeat (first|(with_reducible first|exact HB.out|apply zg|apply zd|apply zk)|exact HB.out)⟩⟩
 case round=>
  clear H'
  obtain ⟨x0_1,x3_1,rfl,HA,HK1,HO_3,HB⟩:=hrel
  cases gk with
  |zero=>exact absurd HA.out (by simp [impl_varText.l0])
  |succ k1=>
   have H:=HA.out
   clear HA
   simp only [impl_varText.l0] at H
   by_cases c4:x0_1>127
   ·rw [if_pos c4] at H
    have c4b0:decide (127<x0_1)=true:=decide_eq_true c4
    clear c4
    by_cases c5:x3_1.length<140737488355328
    ·rw [if_pos c5] at H
     have LMc5:=zz c5
     clear c5
     obtain ⟨y429,hy429⟩:∃y_:List Int,y_=(x3_1++[(Go.bits .or .i64 (Go.bits .and .i64 x0_1 127) 128)%256]):=⟨_,rfl⟩
     replace H:(impl_varText.l0 k1 (x0_1/128) y429)=some r:=zq8 hy429
     have Ny429:=zz hy429
     clear hy429
     have H':=zz H
     clear H
     go_wp2_with (first|((with_reducible refine zT (b:= .append) (xs:= #[.tmp 7,.tmp 12]) rfl ?_);at_builtin;refine Kd.R_append (Kd.int .u8) (w0:=w) w.heap.size rfl (.tmp 7) (.tmp 12) 171 5 (.int .u8 0) 1 rfl Try.underlying171 info5 rfl zq26 zq11 u3 x3_1 ((Go.bits .or .i64 (Go.bits .and .i64 x0_1 127) 128)%256) [.int .u8 ((Go.bits .or .i64 (Go.bits .and .i64 x0_1 127) 128)%256)] (fun _=>True) (fun _=>False) rfl rfl ?aP (fun _ hk=>hk.elim) ?aF ?aO ?aB ?aS ?aL ?_;(case aP=>exact rfl);(case aB=>exact zq2);(case aF=>exact (fun _ _=>trivial));(case aO=>exact (zq5 HO_3.out));(case aS=>exact (zc zq2));(case aL=>have:=LMc5.out;omega);intro v430 w6 ho hb hg hat;rw [←Ny429.out] at ho;have n0_:=zz (hb);have n1_:=zz (ho);clear HB;clear HO_3;have HB:=n0_;have HO431:=n1_;clear n0_ n1_;clear ho hb hg hat))
     go_roundg k1
     case measure=>have:=HK1.out;omega
     case rel=>exact ⟨(x0_1/128),(y429),zq16,H',⟨zq95 HK1.out⟩,⟨by (with_reducible repeat (first|apply Kd.R_alloc|apply Kd.R_drewN|apply Kd.R_drew));exact HO431.out⟩,⟨by repeat (first|(with_reducible first|exact HB.out|apply zg|apply zd|apply zk)|exact HB.out)⟩⟩
    ·rw [if_neg c5] at H
     exact absurd H zq52
   ·rw [if_neg c4] at H
    have c4b0:decide (127<x0_1)=false:=decide_eq_false c4
    clear c4
    by_cases c7:x3_1.length<140737488355328
    ·rw [if_pos c7] at H
     have LMc7:=zz c7
     clear c7
     obtain ⟨y432,hy432⟩:∃y_:List Int,y_=(x3_1++[(x0_1)%256]):=⟨_,rfl⟩
     replace H:(some (strOfNums y432))=some r:=zq8 hy432
     have Ny432:=zz hy432
     clear hy432
     obtain rfl:=Option.some.inj H
     go_wp2_with (first|((with_reducible refine zT (b:= .append) (xs:= #[.tmp 16,.tmp 19]) rfl ?_);at_builtin;refine Kd.R_append (Kd.int .u8) (w0:=w) w.heap.size rfl (.tmp 16) (.tmp 19) 171 5 (.int .u8 0) 1 rfl Try.underlying171 info5 rfl zq26 zq11 u3 x3_1 ((x0_1)%256) [.int .u8 ((x0_1)%256)] (fun _=>True) (fun _=>False) rfl rfl ?aP (fun _ hk=>hk.elim) ?aF ?aO ?aB ?aS ?aL ?_;(case aP=>exact rfl);(case aB=>exact zq2);(case aF=>exact (fun _ _=>trivial));(case aO=>exact (zq5 HO_3.out));(case aS=>exact (zc zq2));(case aL=>have:=LMc7.out;omega);intro v433 w8 ho hb hg hat;rw [←Ny432.out] at ho;have n0_:=zz (hb);have n1_:=zz (ho);clear HB;clear HO_3;have HB:=n0_;have HO434:=n1_;clear n0_ n1_;clear ho hb hg hat;have hcv9:=zVa (P:=Try.prog) Try.underlying171 Try.underlying5 Try.underlying9 (Kd.own_of_R HO434.out)))
     go_ret
     exact ⟨zq10,by repeat (first|(with_reducible first|exact HB.out|apply zg|apply zd|apply zk)|exact HB.out)⟩
    ·rw [if_neg c7] at H
     exact absurd H zq52
structure TxF (k:Nat) (vt:Int→ByteArray) (sl:ByteArray→ByteArray):Prop where
 vS:∀n:Int,0≤n→n≤100000→spec_l01Var.f k n=some (vt n)
 vI:∀n:Int,0≤n→n≤100000→impl_varText.f k n=some (vt n)
 vz:∀n:Int,(vt n).size≤8
 sS:∀s:ByteArray,s.size≤20000→spec_Sealed.f k s=some (s++sl s,true)
 sI:∀s:ByteArray,s.size≤20000→impl_seal.f k s=some (sl s)
 sz:∀s,(sl s).size=4
section
variable {vt:Int→ByteArray} {sl:ByteArray→ByteArray} {k:Nat}
theorem MOk.f0 {x:S53} (h:MOk x):0≤x.f0∧x.f0≤100000:=h.1.1
theorem MOk.f1 {x:S53} (h:MOk x):0≤x.f1∧x.f1≤100000:=by
 obtain ⟨⟨-,h2,h1,-⟩,-⟩:=h
 rcases h1 with h1|h1<;>omega
theorem MOk.f2 {x:S53} (h:MOk x):0≤x.f2∧x.f2≤100000:=by
 have:=h.1.2.1
 omega
theorem MOk.len {x:S53} (h:MOk x):x.f3.length≤20:=h.1.2.2.2
theorem MOk.fr {x:S53} (h:MOk x) {i:Nat} {f:S122} (hi:x.f3[i]?=some f):(0≤f.f0∧f.f0≤100000)∧f.f1.length≤40∧∀(j:Nat) (p:Int),f.f1[j]?=some p→0≤p∧p≤100000:=by
 obtain ⟨h1,h2⟩:=h.2 i f hi
 have:=h.f0
 have:=h1.1
 have:=h.1.2.1
 refine ⟨zq11,h1.2.2.2,fun j p hp=> ?_⟩
 have:=(h2 j p hp).1
 omega
end
structure BoxAt (w w':World) (cs:List Value):Prop where
 box:w'.heap[w.heap.size]?=some (.cells cs.toArray 53 (0,0))
 bel:Below w.heap.size w w'
theorem BoxAt.step {w w' w2:World} {cs:List Value} (h:BoxAt w w' cs) (hb:Below w'.heap.size w' w2):BoxAt w w2 cs:=⟨zi h.box hb,ze h.bel hb⟩
end Go.Proofs.Ytonhdiemjgdcnaa.PFnExactGivePage
namespace Go.Proofs.Ytonhdiemjgdcnaa.PFnExactGivePage
open Go.RowKit Go.Proofs.YtonhdiemjgdcnaaW.PrintWords Go.Proofs.YtonhdiemjgdcnaaW.PrintLast Go.Proofs.YtonhdiemjgdcnaaW.PrintMore
def enc (n:Nat):List Int:=if h:n<128 then [(n:Int)] else ((n%128+128:Nat):Int)::enc (n/128)
termination_by n
decreasing_by omega
theorem zWa {n:Nat} (h:n<128):enc n=[(n:Int)]:=by rw [enc,dif_pos h]
theorem enc_great {n:Nat} (h:¬n<128):enc n=((n%128+128:Nat):Int)::enc (n/128):=by rw [enc,dif_neg h]
theorem enc_len (i:Nat):∀n,n<128^(i+1)→(enc n).length≤i+1:=by
 induction i with
 |zero=>
  intro n hn
  rw [zWa (by simpa using hn)]
  simp
 |succ i ih=>
  intro n hn
  by_cases h:n<128
  ·rw [zWa h]
   simp
  ·rw [enc_great h,List.length_cons]
   have:=ih (n/128) (by
    rw [Nat.div_lt_iff_lt_mul zq26]
    rwa [←Nat.pow_succ])
   omega
theorem w64 {n:Int} (h0:0≤n) (h1:n<9223372036854775808):wrap64 n=n:=zq128
theorem l01Var_ev:∀(i n:Nat) (acc:List Int),n<128^(i+1)→acc.length+i<140737488355328→n<4611686018427387904→spec_l01Var.l0 (i+1) (n:Int) acc=some (strOfNums (acc++enc n)):=by
 intro i
 induction i with
 |zero=>
  intro n acc hn hl hb
  have h:n<128:=by simpa using hn
  simp only [spec_l01Var.l0]
  rw [if_neg zq11,if_pos zq11,zWa h,show (n:Int)%256=n by omega]
 |succ i ih=>
  intro n acc hn hl hb
  by_cases h:n<128
  ·simp only [spec_l01Var.l0]
   rw [if_neg zq11,if_pos zq11,zWa h,show (n:Int)%256=n by omega]
  ·have hd:n/128<128^(i+1):=by
    rw [Nat.div_lt_iff_lt_mul zq26]
    rwa [←Nat.pow_succ]
   have:=ih (n/128) (acc++[((n%128+128:Nat):Int)]) hd zq134 zq11
   rw [spec_l01Var.l0,if_pos zq11,if_pos zq11,enc_great h]
   rw [show wrap64 (Int.tdiv (n:Int) 128)=((n/128:Nat):Int) by
    rw [Int.tdiv_eq_ediv_of_nonneg zq11];unfold wrap64;omega]
   rw [show (wrap64 (Int.tmod (n:Int) 128+128))%256=((n%128+128:Nat):Int) by
    rw [Int.tmod_eq_emod_of_nonneg zq11];unfold wrap64;omega]
   rw [this]
   simp
namespace Crc
def st (s:Nat):Nat:=if s%2=1 then (s/2)^^^3558460437 else s/2
def st8 (s:Nat):Nat:=st (st (st (st (st (st (st (st s)))))))
def upd (s b:Nat):Nat:=st8 (s^^^b)
def sum (s:Nat) (l:List Nat):Nat:=l.foldl upd s
theorem st_lt {s:Nat} (h:s<2^32):st s<2^32:=by
 unfold st
 split
 ·exact Nat.xor_lt_two_pow zq11 zq26
 ·omega
theorem st8_lt {s:Nat} (h:s<2^32):st8 s<2^32:=by
 unfold st8
 exact st_lt (st_lt (st_lt (st_lt (st_lt (st_lt (st_lt (st_lt h)))))))
theorem upd_lt {s b:Nat} (hs:s<2^32) (hb:b<256):upd s b<2^32:=st8_lt (Nat.xor_lt_two_pow hs zq11)
end Crc
def zua (s:ByteArray):List Nat:=(List.range s.size).map fun (j:Nat)=>(bt s (j:Int)).toNat
theorem natBytes_len (s:ByteArray):(zua s).length=s.size:=by simp [zua]
theorem natBytes_byte (s:ByteArray):∀b∈zua s,b<256:=by
 intro b hb
 simp only [zua,List.mem_map] at hb
 obtain ⟨j,_,rfl⟩:=hb
 have:=bt_range s (j:Int)
 omega
theorem natBytes_drop (s:ByteArray) (i:Nat) (h:i<s.size):(zua s).drop i=(bt s (i:Int)).toNat::(zua s).drop (i+1):=by
 rw [List.drop_eq_getElem_cons (by rw [natBytes_len];exact h)]
 simp [zua]
theorem zMa (k s:Nat) (hs:s<4294967296) (x:ByteArray) (n i:Int) (j:Nat) (hj:j<8):impl_SumMore.l1 (k+1) (s:Int) x n i (j:Int)=impl_SumMore.l1 k ((Crc.st s:Nat):Int) x n i ((j+1:Nat):Int):=by
 have e1:wrap64 ((j:Int)+1)=((j+1:Nat):Int):=zq129
 have e2:Go.bits .and .u32 (s:Int) 1=((s%2:Nat):Int):=by
  have:=u32_and_nat s 1 hs zq26
  rw [Nat.and_one_is_mod] at this
  exact this
 have e3:(s:Int)/2=((s/2:Nat):Int):=zq11
 have e4:Go.bits .xor .u32 ((s/2:Nat):Int) 3558460437=(((s/2)^^^3558460437:Nat):Int):=u32_xor_nat (s/2) 3558460437 zq11 zq26
 have c0:(j:Int)<8:=zq11
 rw [impl_SumMore.l1,if_pos c0,e1,e2,e3,e4]
 unfold Crc.st
 by_cases h:s%2=1
 ·rw [if_pos (by rw [h];rfl),if_pos h]
 ·rw [if_neg (by intro q;apply h;omega),if_neg h]
theorem zNa (k s:Nat) (hs:s<4294967296) (x:ByteArray) (i:Int) (j:Nat) (hj:j<8):spec_SumMore.l1 (k+1) (s:Int) x i (j:Int)=spec_SumMore.l1 k ((Crc.st s:Nat):Int) x i ((j+1:Nat):Int):=by
 have e1:wrap64 ((j:Int)+1)=((j+1:Nat):Int):=zq129
 have e2:Int.tmod (s:Int) 2=((s%2:Nat):Int):=by rw [Int.tmod_eq_emod_of_nonneg zq11];omega
 have e3:(Int.tdiv (s:Int) 2)%4294967296=((s/2:Nat):Int):=by rw [Int.tdiv_eq_ediv_of_nonneg zq11];omega
 have e4:Go.bits .xor .u32 ((s/2:Nat):Int) 3558460437=(((s/2)^^^3558460437:Nat):Int):=u32_xor_nat (s/2) 3558460437 zq11 zq26
 have c0:(j:Int)<8:=zq11
 rw [spec_SumMore.l1,if_pos c0,e1,e2,e3,e4]
 unfold Crc.st
 by_cases h:s%2=1
 ·rw [if_pos (by rw [h];rfl),if_pos h]
 ·rw [if_neg (by intro q;apply h;omega),if_neg h]
theorem st_lt' {s:Nat} (h:s<4294967296):Crc.st s<4294967296:=Crc.st_lt h
theorem impl_byte (k s:Nat) (hs:s<4294967296) (x:ByteArray) (n:Int) (i:Nat) (hi:(i:Int)<n) (hx:i<x.size) (hsz:x.size≤140737488351232):impl_SumMore.l0 (k+10) (s:Int) x n (i:Int)=impl_SumMore.l0 k ((Crc.upd s (bt x (i:Int)).toNat:Nat):Int) x n ((i+1:Nat):Int):=by
 obtain ⟨b,hb⟩:∃b:Nat,bt x (i:Int)=(b:Int):=⟨(bt x (i:Int)).toNat,(Int.toNat_of_nonneg (bt_range x (i:Int)).1).symm⟩
 have hb256:b<256:=by have:=(bt_range x (i:Int)).2;rw [hb] at this;omega
 have e0:(bt x (i:Int))%4294967296=(b:Int):=by rw [hb];omega
 have e1:Go.bits .xor .u32 (s:Int) (b:Int)=((s^^^b:Nat):Int):=u32_xor_nat s b hs zq11
 have e2:wrap64 ((i:Int)+1)=((i+1:Nat):Int):=zq129
 have c1:(0:Int)≤(i:Int):=zq11
 have c2:(i:Int)<(x.size:Int):=zq11
 have h0:s^^^b<4294967296:=Nat.xor_lt_two_pow (n:=32) hs zq11
 rw [impl_SumMore.l0,if_pos hi,if_pos c1,if_pos c2,e0,e1,hb,Int.toNat_natCast]
 have z:(0:Int)=((0:Nat):Int):=rfl
 rw [z,zMa _ _ h0 x n i 0 zq26,zMa _ _ (st_lt' h0) x n i 1 zq26,zMa _ _ (st_lt' (st_lt' h0)) x n i 2 zq26,zMa _ _ (st_lt' (st_lt' (st_lt' h0))) x n i 3 zq26,
  zMa _ _ (st_lt' (st_lt' (st_lt' (st_lt' h0)))) x n i 4 zq26,zMa _ _ (st_lt' (st_lt' (st_lt' (st_lt' (st_lt' h0))))) x n i 5 zq26,zMa _ _ (st_lt' (st_lt' (st_lt' (st_lt' (st_lt' (st_lt' h0)))))) x n i 6 zq26,zMa _ _ (st_lt' (st_lt' (st_lt' (st_lt' (st_lt' (st_lt' (st_lt' h0))))))) x n i 7 zq26]
 have c3:¬((7+1:Nat):Int)<8:=zq26
 rw [impl_SumMore.l1,if_neg c3,e2]
 rfl
theorem spec_byte (k s:Nat) (hs:s<4294967296) (x:ByteArray) (i:Nat) (hx:i<x.size) (hsz:x.size≤140737488351232):spec_SumMore.l0 (k+10) (s:Int) x (i:Int)=spec_SumMore.l0 k ((Crc.upd s (bt x (i:Int)).toNat:Nat):Int) x ((i+1:Nat):Int):=by
 obtain ⟨b,hb⟩:∃b:Nat,bt x (i:Int)=(b:Int):=⟨(bt x (i:Int)).toNat,(Int.toNat_of_nonneg (bt_range x (i:Int)).1).symm⟩
 have hb256:b<256:=by have:=(bt_range x (i:Int)).2;rw [hb] at this;omega
 have e0:(bt x (i:Int))%4294967296=(b:Int):=by rw [hb];omega
 have e1:Go.bits .xor .u32 (s:Int) (b:Int)=((s^^^b:Nat):Int):=u32_xor_nat s b hs zq11
 have e2:wrap64 ((i:Int)+1)=((i+1:Nat):Int):=zq129
 have c1:(0:Int)≤(i:Int):=zq11
 have c2:(i:Int)<(x.size:Int):=zq11
 have h0:s^^^b<4294967296:=Nat.xor_lt_two_pow (n:=32) hs zq11
 rw [spec_SumMore.l0,if_pos c2,if_pos c1,e0,e1,hb,Int.toNat_natCast]
 have z:(0:Int)=((0:Nat):Int):=rfl
 rw [z,zNa _ _ h0 x i 0 zq26,zNa _ _ (st_lt' h0) x i 1 zq26,zNa _ _ (st_lt' (st_lt' h0)) x i 2 zq26,zNa _ _ (st_lt' (st_lt' (st_lt' h0))) x i 3 zq26,
  zNa _ _ (st_lt' (st_lt' (st_lt' (st_lt' h0)))) x i 4 zq26,zNa _ _ (st_lt' (st_lt' (st_lt' (st_lt' (st_lt' h0))))) x i 5 zq26,zNa _ _ (st_lt' (st_lt' (st_lt' (st_lt' (st_lt' (st_lt' h0)))))) x i 6 zq26,zNa _ _ (st_lt' (st_lt' (st_lt' (st_lt' (st_lt' (st_lt' (st_lt' h0))))))) x i 7 zq26]
 have c3:¬((7+1:Nat):Int)<8:=zq26
 rw [spec_SumMore.l1,if_neg c3,e2]
 rfl
theorem sums (x:ByteArray) (hsz:x.size≤140737488351232):∀(d i s:Nat),i+d=x.size→s<4294967296→
  impl_SumMore.l0 (10*d+1) (s:Int) x (x.size:Int) (i:Int)=some ((Crc.sum s ((zua x).drop i):Nat):Int)∧spec_SumMore.l0 (10*d+1) (s:Int) x (i:Int)=some ((Crc.sum s ((zua x).drop i):Nat):Int):=by
 intro d
 induction d with
 |zero=>
  intro i s hi hs
  have hn:(zua x).drop i=[]:=List.drop_eq_nil_of_le (by rw [natBytes_len];omega)
  have c:¬(i:Int)<(x.size:Int):=zq11
  rw [hn]
  exact ⟨by rw [impl_SumMore.l0,if_neg c];rfl,by rw [spec_SumMore.l0,if_neg c];rfl⟩
 |succ d ih=>
  intro i s hi hs
  have hlt:i<x.size:=zq11
  have hb:=natBytes_byte x (bt x (i:Int)).toNat (by
   have:=natBytes_drop x i hlt
   exact List.mem_of_mem_drop (i:=i) (by rw [this];simp))
  obtain ⟨h1,h2⟩:=ih (i+1) (Crc.upd s (bt x (i:Int)).toNat) zq11 (Crc.upd_lt hs hb)
  rw [show 10*(d+1)+1=10*d+1+10 by omega,impl_byte _ s hs x _ i zq11 hlt hsz,spec_byte _ s hs x i hlt hsz,natBytes_drop x i hlt]
  exact ⟨h1,h2⟩
def crcN (s:ByteArray):Nat:=Crc.sum 4294967295 (zua s)
def sealN (s:ByteArray):ByteArray:=strOfNums [((crcN s:Nat):Int)/16777216%256,((crcN s:Nat):Int)/65536%256,((crcN s:Nat):Int)/256%256,((crcN s:Nat):Int)%256]
theorem seal_f (s:ByteArray) (hs:s.size≤140737488351232):impl_seal.f (10*s.size+1) s=some (sealN s)∧(spec_SumOf.f (10*s.size+1) s).bind spec_l02Four.f=some (sealN s):=by
 obtain ⟨h1,h2⟩:=sums s hs s.size 0 4294967295 zq11 zq26
 have z:((0:Nat):Int)=0:=rfl
 have y:((4294967295:Nat):Int)=4294967295:=rfl
 rw [z,y,List.drop_zero] at h1 h2
 unfold impl_seal.f impl_SumOf.f impl_SumMore.f spec_SumOf.f spec_SumMore.f
 rw [h1,h2]
 exact ⟨rfl,rfl⟩
theorem le_up {α:Type} {f:Nat→Option α} (h:∀k,LeO (f k) (f (k+1))) {k:Nat} {r:α} (hf:f k=some r):∀d,f (k+d)=some r
 |0=>hf
 |d+1=>h _ r (le_up h hf d)
theorem le_upto {α:Type} {f:Nat→Option α} (h:∀k,LeO (f k) (f (k+1))) {k K:Nat} {r:α} (hk:k≤K) (hf:f k=some r):f K=some r:=by
 obtain ⟨d,rfl⟩:=Nat.le.dest hk
 exact le_up h hf d
theorem or128:∀m:Fin 128,Go.bits .or .i64 ((m.val:Nat):Int) 128=((m.val+128:Nat):Int):=by decide+kernel
theorem varText_ev:∀(i n:Nat) (acc:List Int),n<128^(i+1)→acc.length+i<140737488355328→n<4611686018427387904→impl_varText.l0 (i+1) (n:Int) acc=some (strOfNums (acc++enc n)):=by
 intro i
 induction i with
 |zero=>
  intro n acc hn hl hb
  have h:n<128:=by simpa using hn
  simp only [impl_varText.l0]
  rw [if_neg zq11,if_pos zq11,zWa h,show (n:Int)%256=n by omega]
 |succ i ih=>
  intro n acc hn hl hb
  by_cases h:n<128
  ·simp only [impl_varText.l0]
   rw [if_neg zq11,if_pos zq11,zWa h,show (n:Int)%256=n by omega]
  ·have hd:n/128<128^(i+1):=by
    rw [Nat.div_lt_iff_lt_mul zq26]
    rwa [←Nat.pow_succ]
   have:=ih (n/128) (acc++[((n%128+128:Nat):Int)]) hd zq134 zq11
   rw [impl_varText.l0,if_pos zq11,if_pos zq11,enc_great h,i64_and127]
   rw [show ((n:Int)/128)=((n/128:Nat):Int) by omega]
   rw [show ((n:Int)%128)=((n%128:Nat):Int) by omega,or128 ⟨n%128,zq11⟩]
   rw [show (((n%128+128:Nat):Int))%256=((n%128+128:Nat):Int) by omega]
   rw [this]
   simp
def vtN (n:Int):ByteArray:=if 0≤n∧n≤100000 then strOfNums (enc n.toNat) else ⟨#[]⟩
theorem sealN_size (s:ByteArray):(sealN s).size=4:=by unfold sealN;rw [strOfNums_size];rfl
theorem txF:EvP (fun k=>TxF k vtN sealN):=by
 refine ⟨200001,fun k hk=>⟨fun n h0 h1=> ?_,fun n h0 h1=> ?_,fun n=> ?_,fun s hs=> ?_,fun s hs=> ?_,sealN_size⟩⟩
 ·refine le_upto (spec_l01Var.mono n) (show 3≤k by omega) ?_
  unfold spec_l01Var.f vtN
  rw [if_pos ⟨h0,h1⟩]
  obtain ⟨m,rfl⟩:=Int.eq_ofNat_of_zero_le h0
  exact l01Var_ev 2 m [] zq11 zq52 zq11
 ·refine le_upto (impl_varText.mono n) (show 3≤k by omega) ?_
  unfold impl_varText.f vtN
  rw [if_pos ⟨h0,h1⟩]
  obtain ⟨m,rfl⟩:=Int.eq_ofNat_of_zero_le h0
  exact varText_ev 2 m [] zq11 zq52 zq11
 ·unfold vtN
  split
  ·rename_i h
   rw [strOfNums_size]
   have:=enc_len 2 n.toNat zq11
   omega
  ·exact Nat.zero_le _
 ·obtain ⟨_,h2⟩:=seal_f s zq11
  refine le_upto (spec_Sealed.mono s) (show 10*s.size+1≤k by omega) ?_
  unfold spec_Sealed.f
  have c1:¬(s.size:Int)>20000:=zq11
  rw [if_neg c1]
  cases hq:spec_SumOf.f (10*s.size+1) s with
  |none=>rw [hq] at h2;cases h2
  |some q=>
   rw [hq,Option.bind_some] at h2
   have h4:=sealN_size s
   rw [Option.bind_some,h2,Option.bind_some,if_pos zq11]
 ·exact le_upto (impl_seal.mono s) (show 10*s.size+1≤k by omega) (seal_f s zq11).1
end Go.Proofs.Ytonhdiemjgdcnaa.PFnExactGivePage
namespace Go.Proofs.Ytonhdiemjgdcnaa.PFnExactGivePage
open Go.RowKit Go.Proofs.YtonhdiemjgdcnaaW.PrintWords Go.Proofs.YtonhdiemjgdcnaaW.PrintLast Go.Proofs.YtonhdiemjgdcnaaW.PrintMore
attribute [local go_sem] zO zP zY zX zK zJ zQ zR
mutual
def spec_DiskOk.l0:Nat→Int→List ByteArray→List (S135)→Option (Bool)
 |0,_,_,_=>none
 |k+1,x3,x174000,x174001=>if x3<(x174000.length:Int) then (if 0≤x3 then (if ((zpa ByteArray.empty x174000 x3).size:Int)>240 then (some false) else (spec_DiskOk.l0 k (wrap64 (x3+1)) x174000 x174001)) else (none)) else (spec_DiskOk.l1 k 0 x174000 x174001)
def spec_DiskOk.l1:Nat→Int→List ByteArray→List (S135)→Option (Bool)
 |0,_,_,_=>none
 |k+1,x4,x174000,x174001=>if x4<(x174001.length:Int) then (if 0≤x4 then ((spec_l01In.f ((zx x174001 x4).f0) 0 (wrap64 ((x174000.length:Int)-1))).bind fun t176=>(if t176=true then (if (((zx x174001 x4).f1).size:Int)>240 then (some false) else (spec_DiskOk.l1 k (wrap64 (x4+1)) x174000 x174001)) else (some false))) else (none)) else ((spec_l01In.f (x174000.length:Int) 4 40).bind fun t178=>(if t178=true then (some (decide ((x174001.length:Int)≤200))) else (some false)))
end
def spec_DiskOk.f (k:Nat) (l0_0:List ByteArray) (l0_1:List (S135)):Option (Bool):=spec_DiskOk.l0 k 0 l0_0 l0_1
theorem spec_DiskOk.calls (k:Nat) (A0_0:Option Addr) (c0_0:Nat) (l0_0:List ByteArray) (A0_1:Option Addr) (c0_1:Nat) (l0_1:List (S135)) (r:Bool) (w:World) (hr0_0:Kd.C Kd.string w A0_0 l0_0.length l0_0) (hc0_0:l0_0.length≤c0_0) (hr0_1:Kd.C k135 w A0_1 l0_1.length l0_1) (hc0_1:l0_1.length≤c0_1) (h:spec_DiskOk.f k l0_0 l0_1=some r):
  Calls Try.prog 64 #[.agg #[.slice A0_0 l0_0.length c0_0,.slice A0_1 l0_1.length c0_1]] w fun e w'=>e= .returned (.bool r)∧Below w.heap.size w w':=by
 have hu32:=Try.underlying32
 have HR0_0:=zz hr0_0
 have HC0_0:=zz hc0_0
 clear hr0_0 hc0_0
 have HR0_1:=zz hr0_1
 have HC0_1:=zz hc0_1
 clear hr0_1 hc0_1
 have HB:=zz (Below.refl w.heap.size w)
 have H:(spec_DiskOk.l0 k 0 l0_0 l0_1)=some r:=h
 clear h
 have H':=zz H
 clear H
 go_enter Try.func64,Try.ntmps64
 go_wp2_with (first|((with_reducible refine zm (N:=1) rfl ?_);(try (refine zA zq44 ?_;dsimp only));refine zq ?hg (N:=1) ?hd (cs:= #[.slice A0_0 l0_0.length c0_0,.slice A0_1 l0_1.length c0_1]) (t:=32) ?hr ?_;(case hd=>rfl);(case hg=>rfl);(case hr=>first|(go_simp;done)|(go_simp;rfl));intro gb173 hg w2 hbox hb;have n0_:=zz (ze zq2 hb);have n1_:=zz (hbox);have n2_:=zz ((by rw [hg];exact (zc zq2):w.heap.size≤gb173));have n3_:=zz ((by rw [hg];exact (zc zq2):w.heap.size≤gb173));clear HB;have HB:=n0_;have BK173:=n1_;have GW173:=n2_;have GE173:=n3_;clear n0_ n1_ n2_ n3_;clear hb hbox hg))
 repeat (go_quiet (first|((with_reducible refine zm (N:=1) rfl ?_);(try (refine zA zq44 ?_;dsimp only));refine zq ?hg (N:=1) ?hd (cs:= #[.slice A0_0 l0_0.length c0_0,.slice A0_1 l0_1.length c0_1]) (t:=32) ?hr ?_;(case hd=>rfl);(case hg=>rfl);(case hr=>first|(go_simp;done)|(go_simp;rfl));intro gb173 hg w2 hbox hb;have n0_:=zz (ze zq2 hb);have n1_:=zz (hbox);have n2_:=zz ((by rw [hg];exact (zc zq2):w.heap.size≤gb173));have n3_:=zz ((by rw [hg];exact (zc zq2):w.heap.size≤gb173));clear HB;have HB:=n0_;have BK173:=n1_;have GW173:=n2_;have GE173:=n3_;clear n0_ n1_ n2_ n3_;clear hb hbox hg));try go_wp2_with (first|((with_reducible refine zm (N:=1) rfl ?_);(try (refine zA zq44 ?_;dsimp only));refine zq ?hg (N:=1) ?hd (cs:= #[.slice A0_0 l0_0.length c0_0,.slice A0_1 l0_1.length c0_1]) (t:=32) ?hr ?_;(case hd=>rfl);(case hg=>rfl);(case hr=>first|(go_simp;done)|(go_simp;rfl));intro gb173 hg w2 hbox hb;have n0_:=zz (ze zq2 hb);have n1_:=zz (hbox);have n2_:=zz ((by rw [hg];exact (zc zq2):w.heap.size≤gb173));have n3_:=zz ((by rw [hg];exact (zc zq2):w.heap.size≤gb173));clear HB;have HB:=n0_;have BK173:=n1_;have GW173:=n2_;have GE173:=n3_;clear n0_ n1_ n2_ n3_;clear hb hbox hg)))
 go_loopg [3] k (fun kq v3 w'=>∃(x3_1:Int),v3= .int .i64 x3_1∧Z0 (spec_DiskOk.l0 kq x3_1 l0_0 l0_1=some r)∧Z0 (kq≤k)∧Z0 (w'.heap[gb173]?=some (.cells #[(.slice A0_0 l0_0.length c0_0),(.slice A0_1 l0_1.length c0_1)] 32 (0,0)))∧Z0 (Below w.heap.size w w'))
 case atStart=>exact ⟨(0),zq16,H',⟨Nat.le_refl _⟩,⟨by (with_reducible repeat (first|refine zf ?_ _|refine zj ?_|refine zh ?_ _));exact BK173.out⟩,⟨by repeat (first|(with_reducible first|exact HB.out|apply zg|apply zd|apply zk|refine zn ?_ GE173.out)|exact HB.out)⟩⟩
 case round=>
  clear H'
  obtain ⟨x3_1,rfl,HA,HK1,BK173,HB⟩:=hrel
  cases gk with
  |zero=>exact absurd HA.out (by simp [spec_DiskOk.l0])
  |succ k1=>
   have H:=HA.out
   clear HA
   simp only [spec_DiskOk.l0] at H
   by_cases c3:x3_1<(l0_0.length:Int)
   ·rw [if_pos c3] at H
    have c3b0:=decide_eq_true c3
    clear c3
    by_cases c4:0≤x3_1
    ·rw [if_pos c4] at H
     have c4b0:=decide_eq_true c4
     clear c4
     by_cases c5:((zpa ByteArray.empty l0_0 x3_1).size:Int)>240
     ·rw [if_pos c5] at H
      have c5b0:decide (240<((zpa ByteArray.empty l0_0 x3_1).size:Int))=true:=decide_eq_true c5
      have c5b1:decide (240<(zpa ByteArray.empty l0_0 x3_1).size)=true:=decide_eq_true zq11
      clear c5
      obtain rfl:=Option.some.inj H
      have hcz6_0:wr.cell? ⟨gb173,0,none⟩=some (.slice A0_0 l0_0.length c0_0):=(zb BK173.out 0).trans rfl
      have hcz6_1:wr.cell? ⟨gb173,1,none⟩=some (.slice A0_1 l0_1.length c0_1):=(zb BK173.out 1).trans rfl
      have hfz6_0:=za BK173.out 0
      have hfz6_1:=za BK173.out 1
      have p174:0≤(x3_1:Int):=of_decide_eq_true zq24
      have q174:x3_1<(l0_0.length:Int):=of_decide_eq_true zq24
      obtain ⟨ad174,e174,hx174_0⟩:=Kd.at_string HR0_0.out x3_1 p174 q174
      cases e174
      replace hx174_0:=(HB.out.cell (World.block_lt_of_cell? w _ hx174_0)).trans hx174_0
      replace p174:=eq_true p174
      replace q174:=eq_true q174
      go_wp2
      repeat (go_quiet (fail);try go_wp2)
      go_ret
      exact ⟨zq10,by repeat (first|(with_reducible first|exact HB.out|apply zg|apply zd|apply zk|refine zn ?_ GE173.out)|exact HB.out)⟩
     ·rw [if_neg c5] at H
      have c5b0:decide (240<((zpa ByteArray.empty l0_0 x3_1).size:Int))=false:=decide_eq_false c5
      have c5b1:decide (240<(zpa ByteArray.empty l0_0 x3_1).size)=false:=decide_eq_false zq11
      clear c5
      have H':=zz H
      clear H
      have hcz7_0:wr.cell? ⟨gb173,0,none⟩=some (.slice A0_0 l0_0.length c0_0):=(zb BK173.out 0).trans rfl
      have hcz7_1:wr.cell? ⟨gb173,1,none⟩=some (.slice A0_1 l0_1.length c0_1):=(zb BK173.out 1).trans rfl
      have hfz7_0:=za BK173.out 0
      have hfz7_1:=za BK173.out 1
      have p174:0≤(x3_1:Int):=of_decide_eq_true zq24
      have q174:x3_1<(l0_0.length:Int):=of_decide_eq_true zq24
      obtain ⟨ad174,e174,hx174_0⟩:=Kd.at_string HR0_0.out x3_1 p174 q174
      cases e174
      replace hx174_0:=(HB.out.cell (World.block_lt_of_cell? w _ hx174_0)).trans hx174_0
      replace p174:=eq_true p174
      replace q174:=eq_true q174
      go_wp2
      repeat (go_quiet (fail);try go_wp2)
      go_roundg k1
      case measure=>have:=HK1.out;omega
      case rel=>exact ⟨(wrap64 (x3_1+1)),zq16,H',⟨zq95 HK1.out⟩,⟨by (with_reducible repeat (first|refine zf ?_ _|refine zj ?_|refine zh ?_ _));exact BK173.out⟩,⟨by repeat (first|(with_reducible first|exact HB.out|apply zg|apply zd|apply zk|refine zn ?_ GE173.out)|exact HB.out)⟩⟩
    ·rw [if_neg c4] at H
     exact absurd H zq52
   ·rw [if_neg c3] at H
    have c3b0:=decide_eq_false c3
    clear c3
    have H':=zz H
    clear H
    have hcz8_0:wr.cell? ⟨gb173,0,none⟩=some (.slice A0_0 l0_0.length c0_0):=(zb BK173.out 0).trans rfl
    have hcz8_1:wr.cell? ⟨gb173,1,none⟩=some (.slice A0_1 l0_1.length c0_1):=(zb BK173.out 1).trans rfl
    have hfz8_0:=za BK173.out 0
    have hfz8_1:=za BK173.out 1
    go_wp2
    repeat (go_quiet (fail);try go_wp2)
    go_loopg [4] k1 (fun kq v4 w'=>∃(x4_2:Int),v4= .int .i64 x4_2∧Z0 (spec_DiskOk.l1 kq x4_2 l0_0 l0_1=some r)∧Z0 (kq≤k1)∧Z0 (w'.heap[gb173]?=some (.cells #[(.slice A0_0 l0_0.length c0_0),(.slice A0_1 l0_1.length c0_1)] 32 (0,0)))∧Z0 (Below w.heap.size w w'))
    case atStart=>exact ⟨(0),zq16,H',⟨Nat.le_refl _⟩,⟨by (with_reducible repeat (first|refine zf ?_ _|refine zj ?_|refine zh ?_ _));exact BK173.out⟩,⟨by repeat (first|(with_reducible first|exact HB.out|apply zg|apply zd|apply zk|refine zn ?_ GE173.out)|exact HB.out)⟩⟩
    case round=>
     clear H'
     try clear c3
     try clear c3b0
     try clear c4
     try clear c4b0
     try clear c5
     try clear c5b0
     try clear c5b1
     try clear hcz6_0
     try clear hcz6_1
     try clear hcz7_0
     try clear hcz7_1
     try clear hcz8_0
     try clear hcz8_1
     try clear hfz6_0
     try clear hfz6_1
     try clear hfz7_0
     try clear hfz7_1
     try clear hfz8_0
     try clear hfz8_1
     try clear hx174_0
     try clear p174
     try clear q174
     obtain ⟨x4_2,rfl,HA,HK2,BK173,HB⟩:=hrel
     cases gk with
     |zero=>exact absurd HA.out (by simp [spec_DiskOk.l1])
     |succ k2=>
      have H:=HA.out
      clear HA
      simp only [spec_DiskOk.l1] at H
      by_cases c9:x4_2<(l0_1.length:Int)
      ·rw [if_pos c9] at H
       have c9b0:=decide_eq_true c9
       clear c9
       by_cases c10:0≤x4_2
       ·rw [if_pos c10] at H
        have c10b0:=decide_eq_true c10
        clear c10
        replace H:=Option.bind_eq_some_iff.mp H
        obtain ⟨t176,A110,H⟩:=H
        replace H:(if t176=true then (if (((zx l0_1 x4_2).f1).size:Int)>240 then (some false) else (spec_DiskOk.l1 k2 (wrap64 (x4_2+1)) l0_0 l0_1)) else (some false))=some r:=H
        have A11:=zz A110
        clear A110
        by_cases c12:t176=true
        ·subst c12
         rw [if_pos rfl] at H
         by_cases c13:(((zx l0_1 x4_2).f1).size:Int)>240
         ·rw [if_pos c13] at H
          have c13b0:decide (240<(((zx l0_1 x4_2).f1).size:Int))=true:=decide_eq_true c13
          have c13b1:decide (240<((zx l0_1 x4_2).f1).size)=true:=decide_eq_true zq11
          clear c13
          obtain rfl:=Option.some.inj H
          have hcz14_0:wr.cell? ⟨gb173,0,none⟩=some (.slice A0_0 l0_0.length c0_0):=(zb BK173.out 0).trans rfl
          have hcz14_1:wr.cell? ⟨gb173,1,none⟩=some (.slice A0_1 l0_1.length c0_1):=(zb BK173.out 1).trans rfl
          have hfz14_0:=za BK173.out 0
          have hfz14_1:=za BK173.out 1
          have p175:0≤(x4_2:Int):=of_decide_eq_true zq24
          have q175:x4_2<(l0_1.length:Int):=of_decide_eq_true zq24
          obtain ⟨ad175,e175,hx175_0,hx175_1⟩:=zsa HR0_1.out x4_2 p175 q175
          cases e175
          replace hx175_0:=(HB.out.cell (World.block_lt_of_cell? w _ hx175_0)).trans hx175_0
          replace hx175_1:=(HB.out.cell (World.block_lt_of_cell? w _ hx175_1)).trans hx175_1
          replace p175:=eq_true p175
          replace q175:=eq_true q175
          go_wp2_with (first|(go_at_call 108;(try simp only [zfa]);(with_reducible refine (spec_l01In.calls ((zx l0_1 x4_2).f0) 0 (wrap64 ((l0_0.length:Int)-1)) true _ A11.out).mono ?_);rintro e w' ⟨rfl,⟨nd,rfl⟩⟩;(try first|exact ⟨rfl,_,World.drewN_drewN _ _ _⟩|exact ⟨rfl,_,Eq.trans (World.drewN_drewN _ _ _) (congrArg (World.drewN _) (Nat.add_assoc _ _ _))⟩);have p177:0≤(x4_2:Int):=of_decide_eq_true zq24;have q177:x4_2<(l0_1.length:Int):=of_decide_eq_true zq24;obtain ⟨ad177,e177,hx177_0,hx177_1⟩:=zsa HR0_1.out x4_2 p177 q177;obtain rfl:ad175=ad177:=(by injection e177);replace hx177_0:=(HB.out.cell (World.block_lt_of_cell? w _ hx177_0)).trans hx177_0;replace hx177_1:=(HB.out.cell (World.block_lt_of_cell? w _ hx177_1)).trans hx177_1;replace p177:=eq_true p177;replace q177:=eq_true q177))
          repeat (go_quiet (first|(go_at_call 108;(try simp only [zfa]);(with_reducible refine (spec_l01In.calls ((zx l0_1 x4_2).f0) 0 (wrap64 ((l0_0.length:Int)-1)) true _ A11.out).mono ?_);rintro e w' ⟨rfl,⟨nd,rfl⟩⟩;(try first|exact ⟨rfl,_,World.drewN_drewN _ _ _⟩|exact ⟨rfl,_,Eq.trans (World.drewN_drewN _ _ _) (congrArg (World.drewN _) (Nat.add_assoc _ _ _))⟩);have p177:0≤(x4_2:Int):=of_decide_eq_true zq24;have q177:x4_2<(l0_1.length:Int):=of_decide_eq_true zq24;obtain ⟨ad177,e177,hx177_0,hx177_1⟩:=zsa HR0_1.out x4_2 p177 q177;obtain rfl:ad175=ad177:=(by injection e177);replace hx177_0:=(HB.out.cell (World.block_lt_of_cell? w _ hx177_0)).trans hx177_0;replace hx177_1:=(HB.out.cell (World.block_lt_of_cell? w _ hx177_1)).trans hx177_1;replace p177:=eq_true p177;replace q177:=eq_true q177));try go_wp2_with (first|(go_at_call 108;(try simp only [zfa]);(with_reducible refine (spec_l01In.calls ((zx l0_1 x4_2).f0) 0 (wrap64 ((l0_0.length:Int)-1)) true _ A11.out).mono ?_);rintro e w' ⟨rfl,⟨nd,rfl⟩⟩;(try first|exact ⟨rfl,_,World.drewN_drewN _ _ _⟩|exact ⟨rfl,_,Eq.trans (World.drewN_drewN _ _ _) (congrArg (World.drewN _) (Nat.add_assoc _ _ _))⟩);have p177:0≤(x4_2:Int):=of_decide_eq_true zq24;have q177:x4_2<(l0_1.length:Int):=of_decide_eq_true zq24;obtain ⟨ad177,e177,hx177_0,hx177_1⟩:=zsa HR0_1.out x4_2 p177 q177;obtain rfl:ad175=ad177:=(by injection e177);replace hx177_0:=(HB.out.cell (World.block_lt_of_cell? w _ hx177_0)).trans hx177_0;replace hx177_1:=(HB.out.cell (World.block_lt_of_cell? w _ hx177_1)).trans hx177_1;replace p177:=eq_true p177;replace q177:=eq_true q177)))
          go_ret
          exact ⟨zq10,by repeat (first|(with_reducible first|exact HB.out|apply zg|apply zd|apply zk|refine zn ?_ GE173.out)|exact HB.out)⟩
         ·rw [if_neg c13] at H
          have c13b0:decide (240<(((zx l0_1 x4_2).f1).size:Int))=false:=decide_eq_false c13
          have c13b1:decide (240<((zx l0_1 x4_2).f1).size)=false:=decide_eq_false zq11
          clear c13
          have H':=zz H
          clear H
          have hcz15_0:wr.cell? ⟨gb173,0,none⟩=some (.slice A0_0 l0_0.length c0_0):=(zb BK173.out 0).trans rfl
          have hcz15_1:wr.cell? ⟨gb173,1,none⟩=some (.slice A0_1 l0_1.length c0_1):=(zb BK173.out 1).trans rfl
          have hfz15_0:=za BK173.out 0
          have hfz15_1:=za BK173.out 1
          have p175:0≤(x4_2:Int):=of_decide_eq_true zq24
          have q175:x4_2<(l0_1.length:Int):=of_decide_eq_true zq24
          obtain ⟨ad175,e175,hx175_0,hx175_1⟩:=zsa HR0_1.out x4_2 p175 q175
          cases e175
          replace hx175_0:=(HB.out.cell (World.block_lt_of_cell? w _ hx175_0)).trans hx175_0
          replace hx175_1:=(HB.out.cell (World.block_lt_of_cell? w _ hx175_1)).trans hx175_1
          replace p175:=eq_true p175
          replace q175:=eq_true q175
          go_wp2_with (first|(go_at_call 108;(try simp only [zfa]);(with_reducible refine (spec_l01In.calls ((zx l0_1 x4_2).f0) 0 (wrap64 ((l0_0.length:Int)-1)) true _ A11.out).mono ?_);rintro e w' ⟨rfl,⟨nd,rfl⟩⟩;(try first|exact ⟨rfl,_,World.drewN_drewN _ _ _⟩|exact ⟨rfl,_,Eq.trans (World.drewN_drewN _ _ _) (congrArg (World.drewN _) (Nat.add_assoc _ _ _))⟩);have p177:0≤(x4_2:Int):=of_decide_eq_true zq24;have q177:x4_2<(l0_1.length:Int):=of_decide_eq_true zq24;obtain ⟨ad177,e177,hx177_0,hx177_1⟩:=zsa HR0_1.out x4_2 p177 q177;obtain rfl:ad175=ad177:=(by injection e177);replace hx177_0:=(HB.out.cell (World.block_lt_of_cell? w _ hx177_0)).trans hx177_0;replace hx177_1:=(HB.out.cell (World.block_lt_of_cell? w _ hx177_1)).trans hx177_1;replace p177:=eq_true p177;replace q177:=eq_true q177))
          repeat (go_quiet (first|(go_at_call 108;(try simp only [zfa]);(with_reducible refine (spec_l01In.calls ((zx l0_1 x4_2).f0) 0 (wrap64 ((l0_0.length:Int)-1)) true _ A11.out).mono ?_);rintro e w' ⟨rfl,⟨nd,rfl⟩⟩;(try first|exact ⟨rfl,_,World.drewN_drewN _ _ _⟩|exact ⟨rfl,_,Eq.trans (World.drewN_drewN _ _ _) (congrArg (World.drewN _) (Nat.add_assoc _ _ _))⟩);have p177:0≤(x4_2:Int):=of_decide_eq_true zq24;have q177:x4_2<(l0_1.length:Int):=of_decide_eq_true zq24;obtain ⟨ad177,e177,hx177_0,hx177_1⟩:=zsa HR0_1.out x4_2 p177 q177;obtain rfl:ad175=ad177:=(by injection e177);replace hx177_0:=(HB.out.cell (World.block_lt_of_cell? w _ hx177_0)).trans hx177_0;replace hx177_1:=(HB.out.cell (World.block_lt_of_cell? w _ hx177_1)).trans hx177_1;replace p177:=eq_true p177;replace q177:=eq_true q177));try go_wp2_with (first|(go_at_call 108;(try simp only [zfa]);(with_reducible refine (spec_l01In.calls ((zx l0_1 x4_2).f0) 0 (wrap64 ((l0_0.length:Int)-1)) true _ A11.out).mono ?_);rintro e w' ⟨rfl,⟨nd,rfl⟩⟩;(try first|exact ⟨rfl,_,World.drewN_drewN _ _ _⟩|exact ⟨rfl,_,Eq.trans (World.drewN_drewN _ _ _) (congrArg (World.drewN _) (Nat.add_assoc _ _ _))⟩);have p177:0≤(x4_2:Int):=of_decide_eq_true zq24;have q177:x4_2<(l0_1.length:Int):=of_decide_eq_true zq24;obtain ⟨ad177,e177,hx177_0,hx177_1⟩:=zsa HR0_1.out x4_2 p177 q177;obtain rfl:ad175=ad177:=(by injection e177);replace hx177_0:=(HB.out.cell (World.block_lt_of_cell? w _ hx177_0)).trans hx177_0;replace hx177_1:=(HB.out.cell (World.block_lt_of_cell? w _ hx177_1)).trans hx177_1;replace p177:=eq_true p177;replace q177:=eq_true q177)))
          go_roundg k2
          case measure=>have:=HK1.out;have:=HK2.out;omega
          case rel=>exact ⟨(wrap64 (x4_2+1)),zq16,H',⟨by have:=HK1.out;have:=HK2.out;omega⟩,⟨by (with_reducible repeat (first|refine zf ?_ _|refine zj ?_|refine zh ?_ _));exact BK173.out⟩,⟨by repeat (first|(with_reducible first|exact HB.out|apply zg|apply zd|apply zk|refine zn ?_ GE173.out)|exact HB.out)⟩⟩
        ·replace c12:=Bool.eq_false_iff.mpr c12
         subst c12
         rw [if_neg (show ¬(false=true) by decide)] at H
         obtain rfl:=Option.some.inj H
         have hcz16_0:wr.cell? ⟨gb173,0,none⟩=some (.slice A0_0 l0_0.length c0_0):=(zb BK173.out 0).trans rfl
         have hcz16_1:wr.cell? ⟨gb173,1,none⟩=some (.slice A0_1 l0_1.length c0_1):=(zb BK173.out 1).trans rfl
         have hfz16_0:=za BK173.out 0
         have hfz16_1:=za BK173.out 1
         have p175:0≤(x4_2:Int):=of_decide_eq_true zq24
         have q175:x4_2<(l0_1.length:Int):=of_decide_eq_true zq24
         obtain ⟨ad175,e175,hx175_0,hx175_1⟩:=zsa HR0_1.out x4_2 p175 q175
         cases e175
         replace hx175_0:=(HB.out.cell (World.block_lt_of_cell? w _ hx175_0)).trans hx175_0
         replace hx175_1:=(HB.out.cell (World.block_lt_of_cell? w _ hx175_1)).trans hx175_1
         replace p175:=eq_true p175
         replace q175:=eq_true q175
         go_wp2_with (first|(go_at_call 108;(try simp only [zfa]);(with_reducible refine (spec_l01In.calls ((zx l0_1 x4_2).f0) 0 (wrap64 ((l0_0.length:Int)-1)) false _ A11.out).mono ?_);rintro e w' ⟨rfl,⟨nd,rfl⟩⟩;(try first|exact ⟨rfl,_,World.drewN_drewN _ _ _⟩|exact ⟨rfl,_,Eq.trans (World.drewN_drewN _ _ _) (congrArg (World.drewN _) (Nat.add_assoc _ _ _))⟩)))
         repeat (go_quiet (first|(go_at_call 108;(try simp only [zfa]);(with_reducible refine (spec_l01In.calls ((zx l0_1 x4_2).f0) 0 (wrap64 ((l0_0.length:Int)-1)) false _ A11.out).mono ?_);rintro e w' ⟨rfl,⟨nd,rfl⟩⟩;(try first|exact ⟨rfl,_,World.drewN_drewN _ _ _⟩|exact ⟨rfl,_,Eq.trans (World.drewN_drewN _ _ _) (congrArg (World.drewN _) (Nat.add_assoc _ _ _))⟩)));try go_wp2_with (first|(go_at_call 108;(try simp only [zfa]);(with_reducible refine (spec_l01In.calls ((zx l0_1 x4_2).f0) 0 (wrap64 ((l0_0.length:Int)-1)) false _ A11.out).mono ?_);rintro e w' ⟨rfl,⟨nd,rfl⟩⟩;(try first|exact ⟨rfl,_,World.drewN_drewN _ _ _⟩|exact ⟨rfl,_,Eq.trans (World.drewN_drewN _ _ _) (congrArg (World.drewN _) (Nat.add_assoc _ _ _))⟩))))
         go_ret
         exact ⟨zq10,by repeat (first|(with_reducible first|exact HB.out|apply zg|apply zd|apply zk|refine zn ?_ GE173.out)|exact HB.out)⟩
       ·rw [if_neg c10] at H
        exact absurd H zq52
      ·rw [if_neg c9] at H
       have c9b0:=decide_eq_false c9
       clear c9
       replace H:=Option.bind_eq_some_iff.mp H
       obtain ⟨t178,A170,H⟩:=H
       replace H:(if t178=true then (some (decide ((l0_1.length:Int)≤200))) else (some false))=some r:=H
       have A17:=zz A170
       clear A170
       by_cases c18:t178=true
       ·subst c18
        rw [if_pos rfl] at H
        obtain rfl:=Option.some.inj H
        have hcz19_0:wr.cell? ⟨gb173,0,none⟩=some (.slice A0_0 l0_0.length c0_0):=(zb BK173.out 0).trans rfl
        have hcz19_1:wr.cell? ⟨gb173,1,none⟩=some (.slice A0_1 l0_1.length c0_1):=(zb BK173.out 1).trans rfl
        have hfz19_0:=za BK173.out 0
        have hfz19_1:=za BK173.out 1
        go_wp2_with (first|(go_at_call 108;(with_reducible refine (spec_l01In.calls (l0_0.length:Int) 4 40 true _ A17.out).mono ?_);rintro e w' ⟨rfl,⟨nd,rfl⟩⟩;(try first|exact ⟨rfl,_,World.drewN_drewN _ _ _⟩|exact ⟨rfl,_,Eq.trans (World.drewN_drewN _ _ _) (congrArg (World.drewN _) (Nat.add_assoc _ _ _))⟩)))
        repeat (go_quiet (first|(go_at_call 108;(with_reducible refine (spec_l01In.calls (l0_0.length:Int) 4 40 true _ A17.out).mono ?_);rintro e w' ⟨rfl,⟨nd,rfl⟩⟩;(try first|exact ⟨rfl,_,World.drewN_drewN _ _ _⟩|exact ⟨rfl,_,Eq.trans (World.drewN_drewN _ _ _) (congrArg (World.drewN _) (Nat.add_assoc _ _ _))⟩)));try go_wp2_with (first|(go_at_call 108;(with_reducible refine (spec_l01In.calls (l0_0.length:Int) 4 40 true _ A17.out).mono ?_);rintro e w' ⟨rfl,⟨nd,rfl⟩⟩;(try first|exact ⟨rfl,_,World.drewN_drewN _ _ _⟩|exact ⟨rfl,_,Eq.trans (World.drewN_drewN _ _ _) (congrArg (World.drewN _) (Nat.add_assoc _ _ _))⟩))))
        go_ret
        exact ⟨zq10,by repeat (first|(with_reducible first|exact HB.out|apply zg|apply zd|apply zk|refine zn ?_ GE173.out)|exact HB.out)⟩
       ·replace c18:=Bool.eq_false_iff.mpr c18
        subst c18
        rw [if_neg (show ¬(false=true) by decide)] at H
        obtain rfl:=Option.some.inj H
        have hcz20_0:wr.cell? ⟨gb173,0,none⟩=some (.slice A0_0 l0_0.length c0_0):=(zb BK173.out 0).trans rfl
        have hcz20_1:wr.cell? ⟨gb173,1,none⟩=some (.slice A0_1 l0_1.length c0_1):=(zb BK173.out 1).trans rfl
        have hfz20_0:=za BK173.out 0
        have hfz20_1:=za BK173.out 1
        go_wp2_with (first|(go_at_call 108;(with_reducible refine (spec_l01In.calls (l0_0.length:Int) 4 40 false _ A17.out).mono ?_);rintro e w' ⟨rfl,⟨nd,rfl⟩⟩;(try first|exact ⟨rfl,_,World.drewN_drewN _ _ _⟩|exact ⟨rfl,_,Eq.trans (World.drewN_drewN _ _ _) (congrArg (World.drewN _) (Nat.add_assoc _ _ _))⟩)))
        repeat (go_quiet (first|(go_at_call 108;(with_reducible refine (spec_l01In.calls (l0_0.length:Int) 4 40 false _ A17.out).mono ?_);rintro e w' ⟨rfl,⟨nd,rfl⟩⟩;(try first|exact ⟨rfl,_,World.drewN_drewN _ _ _⟩|exact ⟨rfl,_,Eq.trans (World.drewN_drewN _ _ _) (congrArg (World.drewN _) (Nat.add_assoc _ _ _))⟩)));try go_wp2_with (first|(go_at_call 108;(with_reducible refine (spec_l01In.calls (l0_0.length:Int) 4 40 false _ A17.out).mono ?_);rintro e w' ⟨rfl,⟨nd,rfl⟩⟩;(try first|exact ⟨rfl,_,World.drewN_drewN _ _ _⟩|exact ⟨rfl,_,Eq.trans (World.drewN_drewN _ _ _) (congrArg (World.drewN _) (Nat.add_assoc _ _ _))⟩))))
        go_ret
        exact ⟨zq10,by repeat (first|(with_reducible first|exact HB.out|apply zg|apply zd|apply zk|refine zn ?_ GE173.out)|exact HB.out)⟩
end Go.Proofs.Ytonhdiemjgdcnaa.PFnExactGivePage
