import Derived.Test.YtonhdiemjgdcnaaGreatCC8
import Derived.Shelf.Abstract
import Derived.ProofKit
import Derived.OpenShut
import Derived.Deep.Slices
import Derived.ShutString
import Derived.ChangeOld
set_option maxHeartbeats 64000000
set_option maxRecDepth 100000
set_option linter.unusedVariables false
set_option linter.unusedSimpArgs false
namespace Go.Proofs.YtonhdiemjgdcnaaGreat.PFnExactGivePage
open Go.RowKit Go.Proofs.YtonhdiemjgdcnaaGreatW.PrintWords Go.Proofs.YtonhdiemjgdcnaaGreatW.PrintLast Go.Proofs.YtonhdiemjgdcnaaGreatW.PrintMore
attribute [local go_sem] zba zga zoa zna zW zV zfa zea
mutual
def spec_DiskOk.l0:Nat→Int→List ByteArray→List (S110)→Option (Bool)
 |0,_,_,_=>none
 |k+1,x3,x174000,x174001=>if x3<(x174000.length:Int) then (if 0≤x3 then (if ((zLa ByteArray.empty x174000 x3).size:Int)>240 then (some false) else (spec_DiskOk.l0 k (wrap64 (x3+1)) x174000 x174001)) else (none)) else (spec_DiskOk.l1 k 0 x174000 x174001)
def spec_DiskOk.l1:Nat→Int→List ByteArray→List (S110)→Option (Bool)
 |0,_,_,_=>none
 |k+1,x4,x174000,x174001=>if x4<(x174001.length:Int) then (if 0≤x4 then ((spec_l01In.f ((zn x174001 x4).f0) 0 (wrap64 ((x174000.length:Int)-1))).bind fun t176=>(if t176=true then (if (((zn x174001 x4).f1).size:Int)>240 then (some false) else (spec_DiskOk.l1 k (wrap64 (x4+1)) x174000 x174001)) else (some false))) else (none)) else ((spec_l01In.f (x174000.length:Int) 4 40).bind fun t178=>(if t178=true then (some (decide ((x174001.length:Int)≤200))) else (some false)))
end
def spec_DiskOk.f (k:Nat) (l0_0:List ByteArray) (l0_1:List (S110)):Option (Bool):=spec_DiskOk.l0 k 0 l0_0 l0_1
theorem spec_DiskOk.calls (k:Nat) (A0_0:Option Addr) (c0_0:Nat) (l0_0:List ByteArray) (A0_1:Option Addr) (c0_1:Nat) (l0_1:List (S110)) (r:Bool) (w:World) (hr0_0:Kd.C Kd.string w A0_0 l0_0.length l0_0) (hc0_0:l0_0.length≤c0_0) (hr0_1:Kd.C k110 w A0_1 l0_1.length l0_1) (hc0_1:l0_1.length≤c0_1) (h:spec_DiskOk.f k l0_0 l0_1=some r):
  Calls Tryz.prog 83 #[.agg #[.slice A0_0 l0_0.length c0_0,.slice A0_1 l0_1.length c0_1]] w fun e w'=>e= .returned (.bool r)∧Below w.heap.size w w':=by
 have hu32:=Tryz.underlying37
 have HR0_0:=zz hr0_0
 have HC0_0:=zz hc0_0
 clear hr0_0 hc0_0
 have HR0_1:=zz hr0_1
 have HC0_1:=zz hc0_1
 clear hr0_1 hc0_1
 have HB:=zz (Below.refl w.heap.size w)
 have H:(spec_DiskOk.l0 k 0 l0_0 l0_1)=some r:=h
 clear h
 have H':=zz H
 clear H
 go_enter Tryz.func83,Tryz.ntmps83
 go_wp2_with (first|((with_reducible refine zv (N:=1) rfl ?_);(try (refine zya zq19 ?_;dsimp only));refine zE ?hg (N:=1) ?hd (cs:= #[.slice A0_0 l0_0.length c0_0,.slice A0_1 l0_1.length c0_1]) (t:=37) ?hr ?_;(case hd=>rfl);(case hg=>rfl);(case hr=>first|(go_simp;done)|(go_simp;rfl));intro gb173 hg w2 hbox hb;have n0_:=zz (zk zq1 hb);have n1_:=zz (hbox);have n2_:=zz ((by rw [hg];exact (zi zq1):w.heap.size≤gb173));have n3_:=zz ((by rw [hg];exact (zi zq1):w.heap.size≤gb173));clear HB;have HB:=n0_;have BK173:=n1_;have GW173:=n2_;have GE173:=n3_;clear n0_ n1_ n2_ n3_;clear hb hbox hg))
 repeat (go_quiet (first|((with_reducible refine zv (N:=1) rfl ?_);(try (refine zya zq19 ?_;dsimp only));refine zE ?hg (N:=1) ?hd (cs:= #[.slice A0_0 l0_0.length c0_0,.slice A0_1 l0_1.length c0_1]) (t:=37) ?hr ?_;(case hd=>rfl);(case hg=>rfl);(case hr=>first|(go_simp;done)|(go_simp;rfl));intro gb173 hg w2 hbox hb;have n0_:=zz (zk zq1 hb);have n1_:=zz (hbox);have n2_:=zz ((by rw [hg];exact (zi zq1):w.heap.size≤gb173));have n3_:=zz ((by rw [hg];exact (zi zq1):w.heap.size≤gb173));clear HB;have HB:=n0_;have BK173:=n1_;have GW173:=n2_;have GE173:=n3_;clear n0_ n1_ n2_ n3_;clear hb hbox hg));try go_wp2_with (first|((with_reducible refine zv (N:=1) rfl ?_);(try (refine zya zq19 ?_;dsimp only));refine zE ?hg (N:=1) ?hd (cs:= #[.slice A0_0 l0_0.length c0_0,.slice A0_1 l0_1.length c0_1]) (t:=37) ?hr ?_;(case hd=>rfl);(case hg=>rfl);(case hr=>first|(go_simp;done)|(go_simp;rfl));intro gb173 hg w2 hbox hb;have n0_:=zz (zk zq1 hb);have n1_:=zz (hbox);have n2_:=zz ((by rw [hg];exact (zi zq1):w.heap.size≤gb173));have n3_:=zz ((by rw [hg];exact (zi zq1):w.heap.size≤gb173));clear HB;have HB:=n0_;have BK173:=n1_;have GW173:=n2_;have GE173:=n3_;clear n0_ n1_ n2_ n3_;clear hb hbox hg)))
 go_loopg [3] k (fun kq v3 w'=>∃(x3_1:Int),v3= .int .i64 x3_1∧Z0 (spec_DiskOk.l0 kq x3_1 l0_0 l0_1=some r)∧Z0 (kq≤k)∧Z0 (w'.heap[gb173]?=some (.cells #[(.slice A0_0 l0_0.length c0_0),(.slice A0_1 l0_1.length c0_1)] 37 (0,0)))∧Z0 (Below w.heap.size w w'))
 case atStart=>exact ⟨(0),zq12,H',⟨Nat.le_refl _⟩,⟨by (with_reducible repeat (first|refine zj ?_ _|refine zl ?_|refine zh ?_ _));exact BK173.out⟩,⟨by repeat (first|(with_reducible first|exact HB.out|apply zg|apply zf|apply zm|refine zr ?_ GE173.out)|exact HB.out)⟩⟩
 case round=>
  clear H'
  obtain ⟨x3_1,rfl,HA,HK1,BK173,HB⟩:=hrel
  cases gk with
  |zero=>exact absurd HA.out (by simp [spec_DiskOk.l0])
  |succ k1=>
   have H:=HA.out
   clear HA
   simp only [spec_DiskOk.l0] at H
   by_cases c3:x3_1<(l0_0.length:Int)
   ·rw [if_pos c3] at H
    have c3b0:decide (x3_1<(l0_0.length:Int))=true:=decide_eq_true c3
    clear c3
    by_cases c4:0≤x3_1
    ·rw [if_pos c4] at H
     have c4b0:decide (0≤x3_1)=true:=decide_eq_true c4
     clear c4
     by_cases c5:((zLa ByteArray.empty l0_0 x3_1).size:Int)>240
     ·rw [if_pos c5] at H
      have c5b0:decide (240<((zLa ByteArray.empty l0_0 x3_1).size:Int))=true:=decide_eq_true c5
      have c5b1:decide (240<(zLa ByteArray.empty l0_0 x3_1).size)=true:=decide_eq_true zq5
      clear c5
      obtain rfl:=Option.some.inj H
      have hcz6_0:wr.cell? ⟨gb173,0,none⟩=some (.slice A0_0 l0_0.length c0_0):=(ze BK173.out 0).trans rfl
      have hcz6_1:wr.cell? ⟨gb173,1,none⟩=some (.slice A0_1 l0_1.length c0_1):=(ze BK173.out 1).trans rfl
      have hfz6_0:=zd BK173.out 0
      have hfz6_1:=zd BK173.out 1
      have p174:0≤(x3_1:Int):=of_decide_eq_true zq11
      have q174:x3_1<(l0_0.length:Int):=of_decide_eq_true zq11
      obtain ⟨ad174,e174,hx174_0⟩:=Kd.at_string HR0_0.out x3_1 p174 q174
      cases e174
      replace hx174_0:=(HB.out.cell (World.block_lt_of_cell? w _ hx174_0)).trans hx174_0
      replace p174:=eq_true p174
      replace q174:=eq_true q174
      go_wp2
      repeat (go_quiet (fail);try go_wp2)
      go_ret
      exact ⟨by first|rfl|(simp [zx,zw]<;>rfl)|(simp [*,zx,zw]<;>rfl),by repeat (first|(with_reducible first|exact HB.out|apply zg|apply zf|apply zm|refine zr ?_ GE173.out)|exact HB.out)⟩
     ·rw [if_neg c5] at H
      have c5b0:decide (240<((zLa ByteArray.empty l0_0 x3_1).size:Int))=false:=decide_eq_false c5
      have c5b1:decide (240<(zLa ByteArray.empty l0_0 x3_1).size)=false:=decide_eq_false zq5
      clear c5
      have H':=zz H
      clear H
      have hcz7_0:wr.cell? ⟨gb173,0,none⟩=some (.slice A0_0 l0_0.length c0_0):=(ze BK173.out 0).trans rfl
      have hcz7_1:wr.cell? ⟨gb173,1,none⟩=some (.slice A0_1 l0_1.length c0_1):=(ze BK173.out 1).trans rfl
      have hfz7_0:=zd BK173.out 0
      have hfz7_1:=zd BK173.out 1
      have p174:0≤(x3_1:Int):=of_decide_eq_true zq11
      have q174:x3_1<(l0_0.length:Int):=of_decide_eq_true zq11
      obtain ⟨ad174,e174,hx174_0⟩:=Kd.at_string HR0_0.out x3_1 p174 q174
      cases e174
      replace hx174_0:=(HB.out.cell (World.block_lt_of_cell? w _ hx174_0)).trans hx174_0
      replace p174:=eq_true p174
      replace q174:=eq_true q174
      go_wp2
      repeat (go_quiet (fail);try go_wp2)
      go_roundg k1
      case measure=>have:=HK1.out;omega
      case rel=>exact ⟨(wrap64 (x3_1+1)),zq12,H',⟨by have:=HK1.out;omega⟩,⟨by (with_reducible repeat (first|refine zj ?_ _|refine zl ?_|refine zh ?_ _));exact BK173.out⟩,⟨by repeat (first|(with_reducible first|exact HB.out|apply zg|apply zf|apply zm|refine zr ?_ GE173.out)|exact HB.out)⟩⟩
    ·rw [if_neg c4] at H
     exact absurd H zq15
   ·rw [if_neg c3] at H
    have c3b0:decide (x3_1<(l0_0.length:Int))=false:=decide_eq_false c3
    clear c3
    have H':=zz H
    clear H
    have hcz8_0:wr.cell? ⟨gb173,0,none⟩=some (.slice A0_0 l0_0.length c0_0):=(ze BK173.out 0).trans rfl
    have hcz8_1:wr.cell? ⟨gb173,1,none⟩=some (.slice A0_1 l0_1.length c0_1):=(ze BK173.out 1).trans rfl
    have hfz8_0:=zd BK173.out 0
    have hfz8_1:=zd BK173.out 1
    go_wp2
    repeat (go_quiet (fail);try go_wp2)
    go_loopg [4] k1 (fun kq v4 w'=>∃(x4_2:Int),v4= .int .i64 x4_2∧Z0 (spec_DiskOk.l1 kq x4_2 l0_0 l0_1=some r)∧Z0 (kq≤k1)∧Z0 (w'.heap[gb173]?=some (.cells #[(.slice A0_0 l0_0.length c0_0),(.slice A0_1 l0_1.length c0_1)] 37 (0,0)))∧Z0 (Below w.heap.size w w'))
    case atStart=>exact ⟨(0),zq12,H',⟨Nat.le_refl _⟩,⟨by (with_reducible repeat (first|refine zj ?_ _|refine zl ?_|refine zh ?_ _));exact BK173.out⟩,⟨by repeat (first|(with_reducible first|exact HB.out|apply zg|apply zf|apply zm|refine zr ?_ GE173.out)|exact HB.out)⟩⟩
    case round=>
     clear H'
     try clear c3
     try clear c3b0
     try clear c4
     try clear c4b0
     try clear c5
     try clear c5b0
     try clear c5b1
     try clear hcz6_0
     try clear hcz6_1
     try clear hcz7_0
     try clear hcz7_1
     try clear hcz8_0
     try clear hcz8_1
     try clear hfz6_0
     try clear hfz6_1
     try clear hfz7_0
     try clear hfz7_1
     try clear hfz8_0
     try clear hfz8_1
     try clear hx174_0
     try clear p174
     try clear q174
     obtain ⟨x4_2,rfl,HA,HK2,BK173,HB⟩:=hrel
     cases gk with
     |zero=>exact absurd HA.out (by simp [spec_DiskOk.l1])
     |succ k2=>
      have H:=HA.out
      clear HA
      simp only [spec_DiskOk.l1] at H
      by_cases c9:x4_2<(l0_1.length:Int)
      ·rw [if_pos c9] at H
       have c9b0:decide (x4_2<(l0_1.length:Int))=true:=decide_eq_true c9
       clear c9
       by_cases c10:0≤x4_2
       ·rw [if_pos c10] at H
        have c10b0:decide (0≤x4_2)=true:=decide_eq_true c10
        clear c10
        replace H:=Option.bind_eq_some_iff.mp H
        obtain ⟨t176,A110,H⟩:=H
        replace H:(if t176=true then (if (((zn l0_1 x4_2).f1).size:Int)>240 then (some false) else (spec_DiskOk.l1 k2 (wrap64 (x4_2+1)) l0_0 l0_1)) else (some false))=some r:=H
        have A11:=zz A110
        clear A110
        by_cases c12:t176=true
        ·subst c12
         have H1:(if (((zn l0_1 x4_2).f1).size:Int)>240 then (some false) else (spec_DiskOk.l1 k2 (wrap64 (x4_2+1)) l0_0 l0_1))=some r:=by rw [if_pos rfl] at H;exact H
         clear H
         have H:=H1
         clear H1
         by_cases c13:(((zn l0_1 x4_2).f1).size:Int)>240
         ·rw [if_pos c13] at H
          have c13b0:decide (240<(((zn l0_1 x4_2).f1).size:Int))=true:=decide_eq_true c13
          have c13b1:decide (240<((zn l0_1 x4_2).f1).size)=true:=decide_eq_true zq5
          clear c13
          obtain rfl:=Option.some.inj H
          have hcz14_0:wr.cell? ⟨gb173,0,none⟩=some (.slice A0_0 l0_0.length c0_0):=(ze BK173.out 0).trans rfl
          have hcz14_1:wr.cell? ⟨gb173,1,none⟩=some (.slice A0_1 l0_1.length c0_1):=(ze BK173.out 1).trans rfl
          have hfz14_0:=zd BK173.out 0
          have hfz14_1:=zd BK173.out 1
          have p175:0≤(x4_2:Int):=of_decide_eq_true zq11
          have q175:x4_2<(l0_1.length:Int):=of_decide_eq_true zq11
          obtain ⟨ad175,e175,hx175_0,hx175_1⟩:=zla HR0_1.out x4_2 p175 q175
          cases e175
          replace hx175_0:=(HB.out.cell (World.block_lt_of_cell? w _ hx175_0)).trans hx175_0
          replace hx175_1:=(HB.out.cell (World.block_lt_of_cell? w _ hx175_1)).trans hx175_1
          replace p175:=eq_true p175
          replace q175:=eq_true q175
          go_wp2_with (first|(go_at_call 77;(try simp only [zA]);(with_reducible refine (spec_l01In.calls ((zn l0_1 x4_2).f0) 0 (wrap64 ((l0_0.length:Int)-1)) true _ A11.out).mono ?_);rintro e w' ⟨rfl,⟨nd,rfl⟩⟩;(try first|exact ⟨rfl,_,World.drewN_drewN _ _ _⟩|exact ⟨rfl,_,Eq.trans (World.drewN_drewN _ _ _) (congrArg (World.drewN _) (Nat.add_assoc _ _ _))⟩);have p177:0≤(x4_2:Int):=of_decide_eq_true zq11;have q177:x4_2<(l0_1.length:Int):=of_decide_eq_true zq11;obtain ⟨ad177,e177,hx177_0,hx177_1⟩:=zla HR0_1.out x4_2 p177 q177;obtain rfl:ad175=ad177:=(by injection e177);replace hx177_0:=(HB.out.cell (World.block_lt_of_cell? w _ hx177_0)).trans hx177_0;replace hx177_1:=(HB.out.cell (World.block_lt_of_cell? w _ hx177_1)).trans hx177_1;replace p177:=eq_true p177;replace q177:=eq_true q177))
          repeat (go_quiet (first|(go_at_call 77;(try simp only [zA]);(with_reducible refine (spec_l01In.calls ((zn l0_1 x4_2).f0) 0 (wrap64 ((l0_0.length:Int)-1)) true _ A11.out).mono ?_);rintro e w' ⟨rfl,⟨nd,rfl⟩⟩;(try first|exact ⟨rfl,_,World.drewN_drewN _ _ _⟩|exact ⟨rfl,_,Eq.trans (World.drewN_drewN _ _ _) (congrArg (World.drewN _) (Nat.add_assoc _ _ _))⟩);have p177:0≤(x4_2:Int):=of_decide_eq_true zq11;have q177:x4_2<(l0_1.length:Int):=of_decide_eq_true zq11;obtain ⟨ad177,e177,hx177_0,hx177_1⟩:=zla HR0_1.out x4_2 p177 q177;obtain rfl:ad175=ad177:=(by injection e177);replace hx177_0:=(HB.out.cell (World.block_lt_of_cell? w _ hx177_0)).trans hx177_0;replace hx177_1:=(HB.out.cell (World.block_lt_of_cell? w _ hx177_1)).trans hx177_1;replace p177:=eq_true p177;replace q177:=eq_true q177));try go_wp2_with (first|(go_at_call 77;(try simp only [zA]);(with_reducible refine (spec_l01In.calls ((zn l0_1 x4_2).f0) 0 (wrap64 ((l0_0.length:Int)-1)) true _ A11.out).mono ?_);rintro e w' ⟨rfl,⟨nd,rfl⟩⟩;(try first|exact ⟨rfl,_,World.drewN_drewN _ _ _⟩|exact ⟨rfl,_,Eq.trans (World.drewN_drewN _ _ _) (congrArg (World.drewN _) (Nat.add_assoc _ _ _))⟩);have p177:0≤(x4_2:Int):=of_decide_eq_true zq11;have q177:x4_2<(l0_1.length:Int):=of_decide_eq_true zq11;obtain ⟨ad177,e177,hx177_0,hx177_1⟩:=zla HR0_1.out x4_2 p177 q177;obtain rfl:ad175=ad177:=(by injection e177);replace hx177_0:=(HB.out.cell (World.block_lt_of_cell? w _ hx177_0)).trans hx177_0;replace hx177_1:=(HB.out.cell (World.block_lt_of_cell? w _ hx177_1)).trans hx177_1;replace p177:=eq_true p177;replace q177:=eq_true q177)))
          go_ret
          exact ⟨by first|rfl|(simp [zx,zw]<;>rfl)|(simp [*,zx,zw]<;>rfl),by repeat (first|(with_reducible first|exact HB.out|apply zg|apply zf|apply zm|refine zr ?_ GE173.out)|exact HB.out)⟩
         ·rw [if_neg c13] at H
          have c13b0:decide (240<(((zn l0_1 x4_2).f1).size:Int))=false:=decide_eq_false c13
          have c13b1:decide (240<((zn l0_1 x4_2).f1).size)=false:=decide_eq_false zq5
          clear c13
          have H':=zz H
          clear H
          have hcz15_0:wr.cell? ⟨gb173,0,none⟩=some (.slice A0_0 l0_0.length c0_0):=(ze BK173.out 0).trans rfl
          have hcz15_1:wr.cell? ⟨gb173,1,none⟩=some (.slice A0_1 l0_1.length c0_1):=(ze BK173.out 1).trans rfl
          have hfz15_0:=zd BK173.out 0
          have hfz15_1:=zd BK173.out 1
          have p175:0≤(x4_2:Int):=of_decide_eq_true zq11
          have q175:x4_2<(l0_1.length:Int):=of_decide_eq_true zq11
          obtain ⟨ad175,e175,hx175_0,hx175_1⟩:=zla HR0_1.out x4_2 p175 q175
          cases e175
          replace hx175_0:=(HB.out.cell (World.block_lt_of_cell? w _ hx175_0)).trans hx175_0
          replace hx175_1:=(HB.out.cell (World.block_lt_of_cell? w _ hx175_1)).trans hx175_1
          replace p175:=eq_true p175
          replace q175:=eq_true q175
          go_wp2_with (first|(go_at_call 77;(try simp only [zA]);(with_reducible refine (spec_l01In.calls ((zn l0_1 x4_2).f0) 0 (wrap64 ((l0_0.length:Int)-1)) true _ A11.out).mono ?_);rintro e w' ⟨rfl,⟨nd,rfl⟩⟩;(try first|exact ⟨rfl,_,World.drewN_drewN _ _ _⟩|exact ⟨rfl,_,Eq.trans (World.drewN_drewN _ _ _) (congrArg (World.drewN _) (Nat.add_assoc _ _ _))⟩);have p177:0≤(x4_2:Int):=of_decide_eq_true zq11;have q177:x4_2<(l0_1.length:Int):=of_decide_eq_true zq11;obtain ⟨ad177,e177,hx177_0,hx177_1⟩:=zla HR0_1.out x4_2 p177 q177;obtain rfl:ad175=ad177:=(by injection e177);replace hx177_0:=(HB.out.cell (World.block_lt_of_cell? w _ hx177_0)).trans hx177_0;replace hx177_1:=(HB.out.cell (World.block_lt_of_cell? w _ hx177_1)).trans hx177_1;replace p177:=eq_true p177;replace q177:=eq_true q177))
          repeat (go_quiet (first|(go_at_call 77;(try simp only [zA]);(with_reducible refine (spec_l01In.calls ((zn l0_1 x4_2).f0) 0 (wrap64 ((l0_0.length:Int)-1)) true _ A11.out).mono ?_);rintro e w' ⟨rfl,⟨nd,rfl⟩⟩;(try first|exact ⟨rfl,_,World.drewN_drewN _ _ _⟩|exact ⟨rfl,_,Eq.trans (World.drewN_drewN _ _ _) (congrArg (World.drewN _) (Nat.add_assoc _ _ _))⟩);have p177:0≤(x4_2:Int):=of_decide_eq_true zq11;have q177:x4_2<(l0_1.length:Int):=of_decide_eq_true zq11;obtain ⟨ad177,e177,hx177_0,hx177_1⟩:=zla HR0_1.out x4_2 p177 q177;obtain rfl:ad175=ad177:=(by injection e177);replace hx177_0:=(HB.out.cell (World.block_lt_of_cell? w _ hx177_0)).trans hx177_0;replace hx177_1:=(HB.out.cell (World.block_lt_of_cell? w _ hx177_1)).trans hx177_1;replace p177:=eq_true p177;replace q177:=eq_true q177));try go_wp2_with (first|(go_at_call 77;(try simp only [zA]);(with_reducible refine (spec_l01In.calls ((zn l0_1 x4_2).f0) 0 (wrap64 ((l0_0.length:Int)-1)) true _ A11.out).mono ?_);rintro e w' ⟨rfl,⟨nd,rfl⟩⟩;(try first|exact ⟨rfl,_,World.drewN_drewN _ _ _⟩|exact ⟨rfl,_,Eq.trans (World.drewN_drewN _ _ _) (congrArg (World.drewN _) (Nat.add_assoc _ _ _))⟩);have p177:0≤(x4_2:Int):=of_decide_eq_true zq11;have q177:x4_2<(l0_1.length:Int):=of_decide_eq_true zq11;obtain ⟨ad177,e177,hx177_0,hx177_1⟩:=zla HR0_1.out x4_2 p177 q177;obtain rfl:ad175=ad177:=(by injection e177);replace hx177_0:=(HB.out.cell (World.block_lt_of_cell? w _ hx177_0)).trans hx177_0;replace hx177_1:=(HB.out.cell (World.block_lt_of_cell? w _ hx177_1)).trans hx177_1;replace p177:=eq_true p177;replace q177:=eq_true q177)))
          go_roundg k2
          case measure=>have:=HK1.out;have:=HK2.out;omega
          case rel=>exact ⟨(wrap64 (x4_2+1)),zq12,H',⟨by have:=HK1.out;have:=HK2.out;omega⟩,⟨by (with_reducible repeat (first|refine zj ?_ _|refine zl ?_|refine zh ?_ _));exact BK173.out⟩,⟨by repeat (first|(with_reducible first|exact HB.out|apply zg|apply zf|apply zm|refine zr ?_ GE173.out)|exact HB.out)⟩⟩
        ·replace c12:=Bool.eq_false_iff.mpr c12
         subst c12
         have H1:(some false)=some r:=by rw [if_neg (show ¬(false=true) by decide)] at H;exact H
         clear H
         have H:=H1
         clear H1
         obtain rfl:=Option.some.inj H
         have hcz16_0:wr.cell? ⟨gb173,0,none⟩=some (.slice A0_0 l0_0.length c0_0):=(ze BK173.out 0).trans rfl
         have hcz16_1:wr.cell? ⟨gb173,1,none⟩=some (.slice A0_1 l0_1.length c0_1):=(ze BK173.out 1).trans rfl
         have hfz16_0:=zd BK173.out 0
         have hfz16_1:=zd BK173.out 1
         have p175:0≤(x4_2:Int):=of_decide_eq_true zq11
         have q175:x4_2<(l0_1.length:Int):=of_decide_eq_true zq11
         obtain ⟨ad175,e175,hx175_0,hx175_1⟩:=zla HR0_1.out x4_2 p175 q175
         cases e175
         replace hx175_0:=(HB.out.cell (World.block_lt_of_cell? w _ hx175_0)).trans hx175_0
         replace hx175_1:=(HB.out.cell (World.block_lt_of_cell? w _ hx175_1)).trans hx175_1
         replace p175:=eq_true p175
         replace q175:=eq_true q175
         go_wp2_with (first|(go_at_call 77;(try simp only [zA]);(with_reducible refine (spec_l01In.calls ((zn l0_1 x4_2).f0) 0 (wrap64 ((l0_0.length:Int)-1)) false _ A11.out).mono ?_);rintro e w' ⟨rfl,⟨nd,rfl⟩⟩;(try first|exact ⟨rfl,_,World.drewN_drewN _ _ _⟩|exact ⟨rfl,_,Eq.trans (World.drewN_drewN _ _ _) (congrArg (World.drewN _) (Nat.add_assoc _ _ _))⟩)))
         repeat (go_quiet (first|(go_at_call 77;(try simp only [zA]);(with_reducible refine (spec_l01In.calls ((zn l0_1 x4_2).f0) 0 (wrap64 ((l0_0.length:Int)-1)) false _ A11.out).mono ?_);rintro e w' ⟨rfl,⟨nd,rfl⟩⟩;(try first|exact ⟨rfl,_,World.drewN_drewN _ _ _⟩|exact ⟨rfl,_,Eq.trans (World.drewN_drewN _ _ _) (congrArg (World.drewN _) (Nat.add_assoc _ _ _))⟩)));try go_wp2_with (first|(go_at_call 77;(try simp only [zA]);(with_reducible refine (spec_l01In.calls ((zn l0_1 x4_2).f0) 0 (wrap64 ((l0_0.length:Int)-1)) false _ A11.out).mono ?_);rintro e w' ⟨rfl,⟨nd,rfl⟩⟩;(try first|exact ⟨rfl,_,World.drewN_drewN _ _ _⟩|exact ⟨rfl,_,Eq.trans (World.drewN_drewN _ _ _) (congrArg (World.drewN _) (Nat.add_assoc _ _ _))⟩))))
         go_ret
         exact ⟨by first|rfl|(simp [zx,zw]<;>rfl)|(simp [*,zx,zw]<;>rfl),by repeat (first|(with_reducible first|exact HB.out|apply zg|apply zf|apply zm|refine zr ?_ GE173.out)|exact HB.out)⟩
       ·rw [if_neg c10] at H
        exact absurd H zq15
      ·rw [if_neg c9] at H
       have c9b0:decide (x4_2<(l0_1.length:Int))=false:=decide_eq_false c9
       clear c9
       replace H:=Option.bind_eq_some_iff.mp H
       obtain ⟨t178,A170,H⟩:=H
       replace H:(if t178=true then (some (decide ((l0_1.length:Int)≤200))) else (some false))=some r:=H
       have A17:=zz A170
       clear A170
       by_cases c18:t178=true
       ·subst c18
        have H1:(some (decide ((l0_1.length:Int)≤200)))=some r:=by rw [if_pos rfl] at H;exact H
        clear H
        have H:=H1
        clear H1
        obtain rfl:=Option.some.inj H
        have hcz19_0:wr.cell? ⟨gb173,0,none⟩=some (.slice A0_0 l0_0.length c0_0):=(ze BK173.out 0).trans rfl
        have hcz19_1:wr.cell? ⟨gb173,1,none⟩=some (.slice A0_1 l0_1.length c0_1):=(ze BK173.out 1).trans rfl
        have hfz19_0:=zd BK173.out 0
        have hfz19_1:=zd BK173.out 1
        go_wp2_with (first|(go_at_call 77;(with_reducible refine (spec_l01In.calls (l0_0.length:Int) 4 40 true _ A17.out).mono ?_);rintro e w' ⟨rfl,⟨nd,rfl⟩⟩;(try first|exact ⟨rfl,_,World.drewN_drewN _ _ _⟩|exact ⟨rfl,_,Eq.trans (World.drewN_drewN _ _ _) (congrArg (World.drewN _) (Nat.add_assoc _ _ _))⟩)))
        repeat (go_quiet (first|(go_at_call 77;(with_reducible refine (spec_l01In.calls (l0_0.length:Int) 4 40 true _ A17.out).mono ?_);rintro e w' ⟨rfl,⟨nd,rfl⟩⟩;(try first|exact ⟨rfl,_,World.drewN_drewN _ _ _⟩|exact ⟨rfl,_,Eq.trans (World.drewN_drewN _ _ _) (congrArg (World.drewN _) (Nat.add_assoc _ _ _))⟩)));try go_wp2_with (first|(go_at_call 77;(with_reducible refine (spec_l01In.calls (l0_0.length:Int) 4 40 true _ A17.out).mono ?_);rintro e w' ⟨rfl,⟨nd,rfl⟩⟩;(try first|exact ⟨rfl,_,World.drewN_drewN _ _ _⟩|exact ⟨rfl,_,Eq.trans (World.drewN_drewN _ _ _) (congrArg (World.drewN _) (Nat.add_assoc _ _ _))⟩))))
        go_ret
        exact ⟨by first|rfl|(simp [zx,zw]<;>rfl)|(simp [*,zx,zw]<;>rfl),by repeat (first|(with_reducible first|exact HB.out|apply zg|apply zf|apply zm|refine zr ?_ GE173.out)|exact HB.out)⟩
       ·replace c18:=Bool.eq_false_iff.mpr c18
        subst c18
        have H1:(some false)=some r:=by rw [if_neg (show ¬(false=true) by decide)] at H;exact H
        clear H
        have H:=H1
        clear H1
        obtain rfl:=Option.some.inj H
        have hcz20_0:wr.cell? ⟨gb173,0,none⟩=some (.slice A0_0 l0_0.length c0_0):=(ze BK173.out 0).trans rfl
        have hcz20_1:wr.cell? ⟨gb173,1,none⟩=some (.slice A0_1 l0_1.length c0_1):=(ze BK173.out 1).trans rfl
        have hfz20_0:=zd BK173.out 0
        have hfz20_1:=zd BK173.out 1
        go_wp2_with (first|(go_at_call 77;(with_reducible refine (spec_l01In.calls (l0_0.length:Int) 4 40 false _ A17.out).mono ?_);rintro e w' ⟨rfl,⟨nd,rfl⟩⟩;(try first|exact ⟨rfl,_,World.drewN_drewN _ _ _⟩|exact ⟨rfl,_,Eq.trans (World.drewN_drewN _ _ _) (congrArg (World.drewN _) (Nat.add_assoc _ _ _))⟩)))
        repeat (go_quiet (first|(go_at_call 77;(with_reducible refine (spec_l01In.calls (l0_0.length:Int) 4 40 false _ A17.out).mono ?_);rintro e w' ⟨rfl,⟨nd,rfl⟩⟩;(try first|exact ⟨rfl,_,World.drewN_drewN _ _ _⟩|exact ⟨rfl,_,Eq.trans (World.drewN_drewN _ _ _) (congrArg (World.drewN _) (Nat.add_assoc _ _ _))⟩)));try go_wp2_with (first|(go_at_call 77;(with_reducible refine (spec_l01In.calls (l0_0.length:Int) 4 40 false _ A17.out).mono ?_);rintro e w' ⟨rfl,⟨nd,rfl⟩⟩;(try first|exact ⟨rfl,_,World.drewN_drewN _ _ _⟩|exact ⟨rfl,_,Eq.trans (World.drewN_drewN _ _ _) (congrArg (World.drewN _) (Nat.add_assoc _ _ _))⟩))))
        go_ret
        exact ⟨by first|rfl|(simp [zx,zw]<;>rfl)|(simp [*,zx,zw]<;>rfl),by repeat (first|(with_reducible first|exact HB.out|apply zg|apply zf|apply zm|refine zr ?_ GE173.out)|exact HB.out)⟩
def spec_WritePage.f (k:Nat) (l0_0:List ByteArray) (l0_1:List (S110)) (a1:Int) (a2:ByteArray):Option (List ByteArray×(List (S110))×Bool):=(spec_l03Copy.f l0_0 l0_1).bind fun bt316=>((spec_DiskOk.f k l0_0 l0_1).bind fun t323=>(if t323=true then ((spec_l01In.f a1 0 (wrap64 ((l0_0.length:Int)-1))).bind fun t324=>(if t324=true then (if (a2.size:Int)>240 then (some (bt316.1,bt316.2,false)) else (if (l0_1.length:Int)=200 then (some (bt316.1,bt316.2,false)) else (if bt316.2.length<5864062014805 then (some (bt316.1,(bt316.2++[(⟨a1,a2⟩:S110)]),true)) else (none)))) else (some (bt316.1,bt316.2,false)))) else (some (bt316.1,bt316.2,false))))
end Go.Proofs.YtonhdiemjgdcnaaGreat.PFnExactGivePage
namespace Go.Proofs.YtonhdiemjgdcnaaGreat.PFnExactGivePage
open Go.RowKit Go.Shelf Go.Proofs.YtonhdiemjgdcnaaGreatW.PrintWords Go.Proofs.YtonhdiemjgdcnaaGreatW.PrintLast Go.Proofs.YtonhdiemjgdcnaaGreatW.PrintMore
attribute [local go_sem] zba zga zoa zna zW zV zfa zea
def idxF {α:Type} (p:α→Bool) (xs:List α):Int:=if xs.any p then (xs.findIdx p:Int) else-1
theorem idxF_hit {α:Type} {p:α→Bool} {xs:List α} {k:Nat} (hk:k<xs.length) (h:p xs[k]=true) (hb:∀j (hj:j<xs.length),j<k→p xs[j]=false):idxF p xs=(k:Int):=by
 unfold idxF
 rw [if_pos (List.any_eq_true.2 ⟨xs[k],List.getElem_mem hk,h⟩),(List.findIdx_eq hk).2 ⟨h,fun j hj=>hb j zq5 hj⟩]
theorem idxF_miss {α:Type} {p:α→Bool} {xs:List α} (hb:∀j (hj:j<xs.length),p xs[j]=false):idxF p xs= -1:=by
 unfold idxF
 rw [if_neg (fun h=>by
  obtain ⟨x,hx,hp⟩:=List.any_eq_true.1 h
  obtain ⟨j,hj,rfl⟩:=List.getElem_of_mem hx
  rw [hb j hj] at hp
  cases hp)]
theorem idxF_any {α:Type} (p:α→Bool) (xs:List α):decide (0≤idxF p xs)=xs.any p:=by
 unfold idxF
 cases h:xs.any p
 ·rfl
 ·simp
theorem rdOf_at {α:Type} (d:α) (xs:List α) (k:Nat) (hk:k<xs.length):zLa d xs (k:Int)=xs[k]:=by
 simp [zLa,List.getD_eq_getElem?_getD,List.getElem?_eq_getElem hk]
def PredB {α:Type} (g:Nat) (lb:Array Value) (enc:α→Value) (p:α→Bool) (w:World):Prop:=
 ∀(W:World) (x:α),Below w.heap.size w W→Calls Tryz.prog g (#[enc x]++lb) W fun e w'=>e= .returned (.bool (p x))∧Below w.heap.size w w'
theorem IndexFunc_string (g:Nat) (lb:Array Value) (p:ByteArray→Bool) (eg:∀args w,(callFunc g args).run Tryz.prog w= .ok (.enter g args) w) (A:Option Addr) (c:Nat) (xs:List ByteArray) (w:World)
  (hr:Kd.C Kd.string w A xs.length xs) (hp:PredB g lb Value.string p w):
  Calls Tryz.prog 148 #[.slice A xs.length c,.func (.func g) #[] lb] w fun e w'=>e= .returned (.int .i64 (idxF p xs))∧Below w.heap.size w w':=by
 have HR:=zz hr
 have HP:=zz hp
 have hbig:=hr.2.1
 clear hr hp
 go_enter Tryz.func148,Tryz.ntmps148
 go_wp2
 go_loopg [5,8] xs.length (fun gg _ s8 wr=>∃kk:Nat,kk≤xs.length∧xs.length-kk≤gg∧s8= .int .i64 kk∧Z0 (Below w.heap.size w wr)∧Z0 (∀j (hj:j<xs.length),j<kk→p xs[j]=false))
 case atStart=>exact ⟨0,Nat.zero_le _,by omega,rfl,⟨Below.refl _ w⟩,⟨fun j hj h=>absurd h (Nat.not_lt_zero _)⟩⟩
 case round=>
  obtain ⟨kk,hkk,hg,rfl,BW,A0⟩:=hrel
  by_cases hlt:kk<xs.length
  ·have hltz:(kk:Int)<(xs.length:Int):=by omega
   obtain ⟨ad,rfl,hcell⟩:=Kd.at_string (Kd.C_below HR.out BW.out) (kk:Int) zq5 hltz
   rw [rdOf_at _ _ _ hlt,Int.toNat_natCast] at hcell
   have hcall:=HP.out wr xs[kk] BW.out
   obtain ⟨y,hy⟩:∃y,xs[kk]=y:=⟨_,rfl⟩
   rw [hy] at hcell hcall
   have B:=zz hy
   clear hy
   cases hq:p y with
   |true=>
    rw [hq] at hcall
    go_wp2_with fail
    ((with_reducible refine hcall.mono ?_);rintro e w' ⟨rfl,hb'⟩)
    go_wp2
    go_ret
    refine ⟨?_,hb'⟩
    rw [idxF_hit hlt (by rw [B.out];exact hq) A0.out]
    rfl
   |false=>
    rw [hq] at hcall
    go_wp2_with fail
    ((with_reducible refine hcall.mono ?_);rintro e w' ⟨rfl,hb'⟩)
    go_wp2
    go_roundg (xs.length-(kk+1))
    case measure=>omega
    case rel=>
     have hw:wrap64 ((kk:Int)+1)=((kk+1:Nat):Int):=by unfold wrap64;omega
     refine ⟨kk+1,by omega,by omega,by first|rfl|exact congrArg (Value.int .i64) hw,⟨hb'⟩,⟨fun j hj hjk=> ?_⟩⟩
     by_cases e:j=kk
     ·subst e
      rw [B.out];exact hq
     ·exact A0.out j hj zq5
  ·have hltz:¬(kk:Int)<(xs.length:Int):=by omega
   have:kk=xs.length:=by omega
   subst this
   go_wp2
   go_ret
   refine ⟨?_,BW.out⟩
   rw [idxF_miss (fun j hj=>A0.out j hj hj)]
   rfl
theorem ContainsFunc_string (g:Nat) (lb:Array Value) (p:ByteArray→Bool) (eg:∀args w,(callFunc g args).run Tryz.prog w= .ok (.enter g args) w) (A:Option Addr) (c:Nat) (xs:List ByteArray) (w:World)
  (hr:Kd.C Kd.string w A xs.length xs) (hp:PredB g lb Value.string p w):
  Calls Tryz.prog 126 #[.slice A xs.length c,.func (.func g) #[] lb] w fun e w'=>e= .returned (.bool (xs.any p))∧Below w.heap.size w w':=by
 rw [←idxF_any]
 have HI:=zz (IndexFunc_string g lb p eg A c xs w hr hp)
 clear hr hp
 generalize idxF p xs=r at HI ⊢
 go_enter Tryz.func126,Tryz.ntmps126
 go_wp2_with fail
 ((with_reducible refine HI.out.mono ?_);rintro e w' ⟨rfl,hb'⟩)
 go_wp2
 go_ret
 exact ⟨rfl,hb'⟩
theorem rdP_nat (xs:List S110) (k:Nat) (hk:k<xs.length):zn xs (k:Int)=xs[k]:=by
 simp [zn,List.getD_eq_getElem?_getD,List.getElem?_eq_getElem hk]
def encP (x:S110):Value:= .agg #[.int .i64 x.f0,.string x.f1]
theorem IndexFunc_pair (g:Nat) (lb:Array Value) (p:S110→Bool) (eg:∀args w,(callFunc g args).run Tryz.prog w= .ok (.enter g args) w) (A:Option Addr) (c:Nat) (xs:List S110) (w:World)
  (hr:Kd.C k110 w A xs.length xs) (hp:PredB g lb encP p w):
  Calls Tryz.prog 149 #[.slice A xs.length c,.func (.func g) #[] lb] w fun e w'=>e= .returned (.int .i64 (idxF p xs))∧Below w.heap.size w w':=by
 have HR:=zz hr
 have HP:=zz hp
 have hbig:=hr.2.1
 clear hr hp
 go_enter Tryz.func149,Tryz.ntmps149
 go_wp2
 go_loopg [5,8] xs.length (fun gg _ s8 wr=>∃kk:Nat,kk≤xs.length∧xs.length-kk≤gg∧s8= .int .i64 kk∧Z0 (Below w.heap.size w wr)∧Z0 (∀j (hj:j<xs.length),j<kk→p xs[j]=false))
 case atStart=>exact ⟨0,Nat.zero_le _,by omega,rfl,⟨Below.refl _ w⟩,⟨fun j hj h=>absurd h (Nat.not_lt_zero _)⟩⟩
 case round=>
  obtain ⟨kk,hkk,hg,rfl,BW,A0⟩:=hrel
  by_cases hlt:kk<xs.length
  ·have hltz:(kk:Int)<(xs.length:Int):=by omega
   obtain ⟨ad,rfl,hcell,hcell1⟩:=zla (Kd.C_below HR.out BW.out) (kk:Int) zq5 hltz
   rw [rdP_nat _ _ hlt,Int.toNat_natCast] at hcell hcell1
   have hcall:=HP.out wr xs[kk] BW.out
   obtain ⟨y,hy⟩:∃y,xs[kk]=y:=⟨_,rfl⟩
   rw [hy] at hcell hcell1 hcall
   have B:=zz hy
   clear hy
   unfold encP at hcall
   cases hq:p y with
   |true=>
    rw [hq] at hcall
    go_wp2_with fail
    ((with_reducible refine hcall.mono ?_);rintro e w' ⟨rfl,hb'⟩)
    go_wp2
    go_ret
    refine ⟨?_,hb'⟩
    rw [idxF_hit hlt (by rw [B.out];exact hq) A0.out]
    rfl
   |false=>
    rw [hq] at hcall
    go_wp2_with fail
    ((with_reducible refine hcall.mono ?_);rintro e w' ⟨rfl,hb'⟩)
    go_wp2
    go_roundg (xs.length-(kk+1))
    case measure=>omega
    case rel=>
     have hw:wrap64 ((kk:Int)+1)=((kk+1:Nat):Int):=by unfold wrap64;omega
     refine ⟨kk+1,by omega,by omega,by first|rfl|exact congrArg (Value.int .i64) hw,⟨hb'⟩,⟨fun j hj hjk=> ?_⟩⟩
     by_cases e:j=kk
     ·subst e
      rw [B.out];exact hq
     ·exact A0.out j hj zq5
  ·have hltz:¬(kk:Int)<(xs.length:Int):=by omega
   have:kk=xs.length:=by omega
   subst this
   go_wp2
   go_ret
   refine ⟨?_,BW.out⟩
   rw [idxF_miss (fun j hj=>A0.out j hj hj)]
   rfl
theorem ContainsFunc_pair (g:Nat) (lb:Array Value) (p:S110→Bool) (eg:∀args w,(callFunc g args).run Tryz.prog w= .ok (.enter g args) w) (A:Option Addr) (c:Nat) (xs:List S110) (w:World)
  (hr:Kd.C k110 w A xs.length xs) (hp:PredB g lb encP p w):
  Calls Tryz.prog 128 #[.slice A xs.length c,.func (.func g) #[] lb] w fun e w'=>e= .returned (.bool (xs.any p))∧Below w.heap.size w w':=by
 rw [←idxF_any]
 have HI:=zz (IndexFunc_pair g lb p eg A c xs w hr hp)
 clear hr hp
 generalize idxF p xs=r at HI ⊢
 go_enter Tryz.func128,Tryz.ntmps128
 go_wp2_with fail
 ((with_reducible refine HI.out.mono ?_);rintro e w' ⟨rfl,hb'⟩)
 go_wp2
 go_ret
 exact ⟨rfl,hb'⟩
def bigT (s:ByteArray):Bool:=decide ((s.size:Int)>240)
theorem predBig (w:World):PredB 127 #[] Value.string bigT w:=fun W x hb=>by
 show Calls Tryz.prog 127 #[.string x] W _
 go_enter Tryz.func127,Tryz.ntmps127
 go_wp2
 all_goals (go_ret;exact ⟨by first|rfl|simp_all [bigT],hb⟩)
theorem enters123:∀args w,(callFunc 127 args).run Tryz.prog w= .ok (.enter 127 args) w:=enters_of Tryz.func127 zq7 rfl
def badP (n:Nat) (p:S110):Bool:= !inB p.f0 0 ((n:Int)-1)||bigT p.f1
theorem predPut (l0:List ByteArray) (l1:List S110) (B:Nat) (w:World) {A0 A1:Option Addr} {c0 c1:Nat} (hbox:w.heap[B]?=some (.cells #[.slice A0 l0.length c0,.slice A1 l1.length c1] 37 (0,0)))
  (m0:l0.length≤c0) (r0:Kd.C Kd.string w A0 l0.length l0) (m1:l1.length≤c1) (r1:Kd.C k110 w A1 l1.length l1) (hl:l0.length≤9223372036854775807):
  PredB 129 #[.pointer (some ⟨B,0,none⟩)] encP (badP l0.length) w:=fun W x hb=>by
 have hw1:wrap64 ((l0.length:Int)-1)=(l0.length:Int)-1:=by unfold wrap64;omega
 have HC:=zz (impl_isPage.calls A0 c0 l0 A1 c1 l1 x.f0 (inB x.f0 0 ((l0.length:Int)-1)) (W.alloc (.cells #[.int .i64 x.f0,.string x.f1] 110)) (Kd.C_below r0 (zg hb _)) m0 (Kd.C_below r1 (zg hb _)) m1 (by
  unfold impl_isPage.f impl_in.f inB
  rw [hw1]
  by_cases h:(0:Int)≤x.f0
  ·rw [if_pos h,decide_eq_true h];rfl
  ·rw [if_neg h,decide_eq_false h];rfl))
 have hb2:=zg hb (.cells #[.int .i64 x.f0,.string x.f1] 110)
 have hB:=zG hbox
 have bx:=zu hbox hb2
 have g0:(W.alloc (.cells #[.int .i64 x.f0,.string x.f1] 110)).cell? ⟨B,0,none⟩=some (.slice A0 l0.length c0):=by rw [ze bx];rfl
 have g1:(W.alloc (.cells #[.int .i64 x.f0,.string x.f1] 110)).cell? ⟨B,1,none⟩=some (.slice A1 l1.length c1):=by rw [ze bx];rfl
 have p0:(W.alloc (.cells #[.int .i64 x.f0,.string x.f1] 110)).cell? ⟨W.heap.size,0,none⟩=some (.int .i64 x.f0):=by rw [World.cell?_alloc_at _ _ _ _ rfl];rfl
 have bx2:(W.alloc (.cells #[.int .i64 x.f0,.string x.f1] 110)).heap[W.heap.size]?=some (.cells #[.int .i64 x.f0,.string x.f1] 110 (0,0)):=zka W _
 have BX2:=zz bx2
 have HB2:=zz hb2
 have p1:(W.alloc (.cells #[.int .i64 x.f0,.string x.f1] 110)).cell? ⟨W.heap.size,1,none⟩=some (.string x.f1):=by rw [ze bx2];rfl
 have e_:badP l0.length x=(!inB x.f0 0 ((l0.length:Int)-1)||bigT x.f1):=rfl
 rw [e_]
 unfold encP
 clear hbox bx bx2 hb2 r0 r1 e_ hw1
 generalize inB x.f0 0 ((l0.length:Int)-1)=bb at HC ⊢
 have HX:=zz (show ∀w1,Below (W.alloc (.cells #[.int .i64 x.f0,.string x.f1] 110)).heap.size (W.alloc (.cells #[.int .i64 x.f0,.string x.f1] 110)) w1→w1.cell? ⟨W.heap.size,1,none⟩=some (.string x.f1) from fun w1 hb=>by rw [ze (zu BX2.out hb)];rfl)
 show Calls Tryz.prog 129 #[.agg #[.int .i64 x.f0,.string x.f1],.pointer (some ⟨B,0,none⟩)] W _
 cases bb<;>(
  go_enter Tryz.func129,Tryz.ntmps129
  go_wp2_with ((with_reducible refine HC.out.mono ?_);rintro e w1 ⟨rfl,hb1⟩;have p2:=HX.out w1 hb1;have HB1:=zz hb1;clear hb1)
  all_goals (go_ret;exact ⟨by first|rfl|simp_all [bigT],zk HB2.out HB1.out⟩))
theorem enters125:∀args w,(callFunc 129 args).run Tryz.prog w= .ok (.enter 129 args) w:=enters_of Tryz.func129 zq7 rfl
def DOk (l0:List ByteArray) (l1:List S110):Bool:=inB (l0.length:Int) 4 40&& !decide ((l1.length:Int)>200)&& !l0.any bigT&& !l1.any (badP l0.length)
def impl_DiskOk.f (l0_0:List ByteArray) (l0_1:List S110):Option Bool:=some (DOk l0_0 l0_1)
theorem impl_DiskOk.calls (A0_0:Option Addr) (c0_0:Nat) (l0_0:List ByteArray) (A0_1:Option Addr) (c0_1:Nat) (l0_1:List S110) (r:Bool) (w:World) (hr0_0:Kd.C Kd.string w A0_0 l0_0.length l0_0) (hc0_0:l0_0.length≤c0_0) (hr0_1:Kd.C k110 w A0_1 l0_1.length l0_1) (hc0_1:l0_1.length≤c0_1) (h:impl_DiskOk.f l0_0 l0_1=some r):
  Calls Tryz.prog 103 #[.agg #[.slice A0_0 l0_0.length c0_0,.slice A0_1 l0_1.length c0_1]] w fun e w'=>e= .returned (.bool r)∧Below w.heap.size w w':=by
 obtain rfl:=Option.some.inj h
 have hn:=hr0_0.2.1
 obtain ⟨w1,hw1⟩:∃w1,w1=w.alloc (.cells #[.slice A0_0 l0_0.length c0_0,.slice A0_1 l0_1.length c0_1] 37):=⟨_,rfl⟩
 have bl:Below w.heap.size w w1:=by rw [hw1];exact zg (Below.refl _ w) _
 have bx:w1.heap[w.heap.size]?=some (.cells #[.slice A0_0 l0_0.length c0_0,.slice A0_1 l0_1.length c0_1] 37 (0,0)):=by rw [hw1];exact zka w _
 have HB:=zz bl
 have BX:=zz bx
 have HE:=zz (show DOk l0_0 l0_1=(inB (l0_0.length:Int) 4 40&& !decide ((l0_1.length:Int)>200)&& !l0_0.any bigT&& !l0_1.any (badP l0_0.length)) from rfl)
 rw [HE.out]
 obtain ⟨b2,e2⟩:∃b,b=l0_0.any bigT:=⟨_,rfl⟩
 obtain ⟨b3,e3⟩:∃b,b=l0_1.any (badP l0_0.length):=⟨_,rfl⟩
 obtain ⟨b0,e0⟩:∃b,b=inB (l0_0.length:Int) 4 40:=⟨_,rfl⟩
 have HI:=zz (show ∀W,Calls Tryz.prog 118 #[.int .i64 (l0_0.length:Int),.int .i64 4,.int .i64 40] W fun e w'=>e= .returned (.bool b0)∧W=w' from fun W=>by rw [e0];exact inI _ _ _ W)
 have HS:=zz (show ∀W,Below w.heap.size w W→Calls Tryz.prog 126 #[.slice A0_0 l0_0.length c0_0,.func (.func 127) #[] #[]] W fun e w'=>e= .returned (.bool b2)∧Below W.heap.size W w' from fun W hb=>by rw [e2];exact ContainsFunc_string 127 #[] bigT enters123 A0_0 c0_0 l0_0 W (Kd.C_below hr0_0 hb) (predBig W))
 have HP:=zz (show ∀W,Below w1.heap.size w1 W→Calls Tryz.prog 128 #[.slice A0_1 l0_1.length c0_1,.func (.func 129) #[] #[.pointer (some ⟨w.heap.size,0,none⟩)]] W fun e w'=>e= .returned (.bool b3)∧Below W.heap.size W w' from fun W hb=>by
  rw [e3]
  exact ContainsFunc_pair 129 #[.pointer (some ⟨w.heap.size,0,none⟩)] (badP l0_0.length) enters125 A0_1 c0_1 l0_1 W (Kd.C_below (Kd.C_below hr0_1 bl) hb) (predPut l0_0 l0_1 w.heap.size W (zu bx hb) hc0_0 (Kd.C_below (Kd.C_below hr0_0 bl) hb) hc0_1 (Kd.C_below (Kd.C_below hr0_1 bl) hb) hn))
 rw [←e0,←e2,←e3]
 have HC:=zz (show ∀W,Below w1.heap.size w1 W→W.cell? ⟨w.heap.size,0,none⟩=some (.slice A0_0 l0_0.length c0_0)∧W.cell? ⟨w.heap.size,1,none⟩=some (.slice A0_1 l0_1.length c0_1) from fun W hb=>by
  have g:=zu bx hb
  exact ⟨by rw [ze g];rfl,by rw [ze g];rfl⟩)
 have H1:=zz hw1
 clear e0 e2 e3 bl bx hr0_0 hr0_1 hw1 h HE
 by_cases h1:(l0_1.length:Int)>200
 ·have q1:decide ((l0_1.length:Int)>200)=true:=decide_eq_true h1
  have D1:=zz q1
  clear h1
  cases b0<;>(
   go_enter Tryz.func103,Tryz.ntmps103
   go_wp2_with ((with_reducible refine (HI.out _).mono ?_);rintro e w2 ⟨rfl,rfl⟩)
   all_goals (go_ret;exact ⟨by rw [D1.out];rfl,by rw [←H1.out];exact HB.out⟩))
 ·have q1:decide ((l0_1.length:Int)>200)=false:=decide_eq_false h1
  have D1:=zz q1
  clear h1
  cases b0 with
  |false=>
   go_enter Tryz.func103,Tryz.ntmps103
   go_wp2_with ((with_reducible refine (HI.out _).mono ?_);rintro e w2 ⟨rfl,rfl⟩)
   all_goals (go_ret;exact ⟨by rfl,by rw [←H1.out];exact HB.out⟩)
  |true=>
   cases b2 with
   |true=>
    go_enter Tryz.func103,Tryz.ntmps103
    go_wp2_with (first|((with_reducible refine (HI.out _).mono ?_);rintro e w2 ⟨rfl,rfl⟩)|((with_reducible refine (HS.out _ (by rw [←H1.out];exact HB.out)).mono ?_);rintro e w2 ⟨rfl,hb⟩;rw [←H1.out] at hb;have HB2:=zz hb;clear hb))
    all_goals (go_ret;exact ⟨by rw [D1.out];rfl,zk HB.out HB2.out⟩)
   |false=>
    cases b3<;>(
     go_enter Tryz.func103,Tryz.ntmps103
     go_wp2_with (first|((with_reducible refine (HI.out _).mono ?_);rintro e w2 ⟨rfl,rfl⟩)|((with_reducible refine (HS.out _ (by rw [←H1.out];exact HB.out)).mono ?_);rintro e w2 ⟨rfl,hb⟩;rw [←H1.out] at hb;have HB2:=zz hb;obtain ⟨g0,g1⟩:=HC.out _ hb;clear hb)|((with_reducible refine (HP.out _ HB2.out).mono ?_);rintro e w3 ⟨rfl,hb⟩;have HB3:=zz hb;clear hb))
     all_goals (go_ret;exact ⟨by rw [D1.out];rfl,zk (zk HB.out HB2.out) HB3.out⟩))
end Go.Proofs.YtonhdiemjgdcnaaGreat.PFnExactGivePage
namespace Go.Proofs.YtonhdiemjgdcnaaGreat.PFnExactGivePage
open Go.RowKit Go.Proofs.YtonhdiemjgdcnaaGreatW.PrintWords Go.Proofs.YtonhdiemjgdcnaaGreatW.PrintLast Go.Proofs.YtonhdiemjgdcnaaGreatW.PrintMore
attribute [local go_sem] zba zga zoa zna zW zV zfa zea
def impl_WritePage.f (l0_0:List ByteArray) (l0_1:List (S110)) (a1:Int) (a2:ByteArray):Option (List ByteArray×(List (S110))×Bool):=(impl_cloneDisk.f l0_0 l0_1).bind fun bt447=>((impl_DiskOk.f l0_0 l0_1).bind fun t454=>(if t454=true then ((impl_isPage.f l0_0 l0_1 a1).bind fun t455=>(if t455=true then (if (a2.size:Int)>240 then (some (bt447.1,bt447.2,false)) else (if (l0_1.length:Int)≥200 then (some (bt447.1,bt447.2,false)) else (if bt447.2.length<5864062014805 then (some (bt447.1,(bt447.2++[(⟨a1,a2⟩:S110)]),true)) else (none)))) else (some (bt447.1,bt447.2,false)))) else (some (bt447.1,bt447.2,false))))
end Go.Proofs.YtonhdiemjgdcnaaGreat.PFnExactGivePage
namespace Go.Proofs.YtonhdiemjgdcnaaGreat.PFnExactGivePage
open Go.RowKit Go.Proofs.YtonhdiemjgdcnaaGreatW.PrintWords Go.Proofs.YtonhdiemjgdcnaaGreatW.PrintLast Go.Proofs.YtonhdiemjgdcnaaGreatW.PrintMore
attribute [local go_sem] zba zga zoa zna zW zV zfa zea
theorem inS_f (a lo hi:Int):spec_l01In.f a lo hi=some (inB a lo hi):=by
 unfold spec_l01In.f inB
 by_cases h:a≥lo
 ·rw [if_pos h,decide_eq_true (show lo≤a from h)];rfl
 ·rw [if_neg h,decide_eq_false (show ¬lo≤a from h)];rfl
theorem le200 (n:Nat):decide ((n:Int)≤200)= !decide ((n:Int)>200):=by
 by_cases h:(n:Int)>200
 ·rw [decide_eq_true h,decide_eq_false zq5];rfl
 ·rw [decide_eq_false h,decide_eq_true zq5];rfl
theorem ds1 (p:List ByteArray) (q:List S110) (hp:p.length≤2000000) (hq:q.length≤2000000):∀n i:Nat,i+n=q.length→Ev (fun k=>spec_DiskOk.l1 k (i:Int) p q) (!(q.drop i).any (badP p.length)&&(inB (p.length:Int) 4 40&& !decide ((q.length:Int)>200))):=by
 have w1:wrap64 ((p.length:Int)-1)=(p.length:Int)-1:=zM zq5 zq5
 intro n
 induction n with
 |zero=>
  intro i hi
  rw [List.drop_eq_nil_of_le (show q.length≤i by omega)]
  refine Ev.step (f:=fun _=>some (!([]:List S110).any (badP p.length)&&(inB (p.length:Int) 4 40&& !decide ((q.length:Int)>200)))) (fun k=> ?_) (Ev.now _)
  rw [spec_DiskOk.l1,if_neg zq5,inS_f,Option.bind_some,le200]
  cases inB (p.length:Int) 4 40<;>rfl
 |succ n ih=>
  intro i hi
  have hlt:i<q.length:=by omega
  have w2:wrap64 ((i:Int)+1)=((i+1:Nat):Int):=by rw [zM zq5 zq5];omega
  rw [List.drop_eq_getElem_cons hlt,List.any_cons]
  by_cases hb:inB q[i].f0 0 ((p.length:Int)-1)=true
  ·by_cases hs:(q[i].f1.size:Int)>240
   ·have e:badP p.length q[i]=true:=by unfold badP bigT;rw [decide_eq_true hs,Bool.or_true]
    rw [e]
    refine Ev.step (f:=fun _=>some false) (fun k=> ?_) (Ev.now _)
    rw [spec_DiskOk.l1,if_pos zq5,if_pos zq5,rd135 _ _ hlt,w1,inS_f,Option.bind_some,if_pos hb,if_pos hs]
   ·have e:badP p.length q[i]=false:=by unfold badP bigT;rw [decide_eq_false hs,hb];rfl
    rw [e,Bool.false_or]
    refine Ev.step (f:=fun k=>spec_DiskOk.l1 k ((i+1:Nat):Int) p q) (fun k=> ?_) (ih (i+1) zq5)
    rw [spec_DiskOk.l1,if_pos zq5,if_pos zq5,rd135 _ _ hlt,w1,inS_f,Option.bind_some,if_pos hb,if_neg hs,w2]
  ·have hb2:inB q[i].f0 0 ((p.length:Int)-1)=false:=by cases h:inB q[i].f0 0 ((p.length:Int)-1)<;>simp_all
   have e:badP p.length q[i]=true:=by unfold badP;rw [hb2];rfl
   rw [e]
   refine Ev.step (f:=fun _=>some false) (fun k=> ?_) (Ev.now _)
   rw [spec_DiskOk.l1,if_pos zq5,if_pos zq5,rd135 _ _ hlt,w1,inS_f,Option.bind_some,if_neg hb]
theorem ds0 (p:List ByteArray) (q:List S110) (hp:p.length≤2000000) (hq:q.length≤2000000):∀n i:Nat,i+n=p.length→Ev (fun k=>spec_DiskOk.l0 k (i:Int) p q) (!(p.drop i).any bigT&&(!q.any (badP p.length)&&(inB (p.length:Int) 4 40&& !decide ((q.length:Int)>200)))):=by
 intro n
 induction n with
 |zero=>
  intro i hi
  rw [List.drop_eq_nil_of_le (show p.length≤i by omega)]
  refine Ev.step (f:=fun k=>spec_DiskOk.l1 k ((0:Nat):Int) p q) (fun k=> ?_) ?_
  ·rw [spec_DiskOk.l0,if_neg zq5]
   rfl
  ·exact ds1 p q hp hq q.length 0 zq5
 |succ n ih=>
  intro i hi
  have hlt:i<p.length:=by omega
  have w2:wrap64 ((i:Int)+1)=((i+1:Nat):Int):=by rw [zM zq5 zq5];omega
  rw [List.drop_eq_getElem_cons hlt,List.any_cons]
  by_cases hs:(p[i].size:Int)>240
  ·have e:bigT p[i]=true:=by unfold bigT;rw [decide_eq_true hs]
   rw [e]
   refine Ev.step (f:=fun _=>some false) (fun k=> ?_) (Ev.now _)
   rw [spec_DiskOk.l0,if_pos zq5,if_pos zq5,rdOf_nat _ _ _ hlt,if_pos hs]
  ·have e:bigT p[i]=false:=by unfold bigT;rw [decide_eq_false hs]
   rw [e,Bool.false_or]
   refine Ev.step (f:=fun k=>spec_DiskOk.l0 k ((i+1:Nat):Int) p q) (fun k=> ?_) (ih (i+1) zq5)
   rw [spec_DiskOk.l0,if_pos zq5,if_pos zq5,rdOf_nat _ _ _ hlt,if_neg hs,w2]
theorem diskOkS_ev (p:List ByteArray) (q:List S110) (hp:p.length≤2000000) (hq:q.length≤2000000):Ev (fun k=>spec_DiskOk.f k p q) (DOk p q):=by
 have h:=ds0 p q hp hq p.length 0 zq5
 have e:(!(p.drop 0).any bigT&&(!q.any (badP p.length)&&(inB (p.length:Int) 4 40&& !decide ((q.length:Int)>200))))=DOk p q:=by
  rw [List.drop_zero]
  unfold DOk
  generalize p.any bigT=a1
  generalize q.any (badP p.length)=a2
  generalize inB (p.length:Int) 4 40=a3
  generalize decide ((q.length:Int)>200)=a4
  cases a1<;>cases a2<;>cases a3<;>cases a4<;>rfl
 rw [e] at h
 exact h
def wrOk (p:List ByteArray) (q:List S110) (a:Int) (t:ByteArray):Bool:=DOk p q&&inB a 0 ((p.length:Int)-1)&& !bigT t&& !decide ((q.length:Int)≥200)
def wrD (z:(List ByteArray×List S110)) (a:Int) (t:ByteArray):(List ByteArray×List S110):=if wrOk z.1 z.2 a t=true then (z.1,z.2++[(⟨a,t⟩:S110)]) else z
theorem cloneD_id2 (p:List ByteArray) (q:List S110) (hp:p.length≤2000000) (hq:q.length≤2000000):impl_cloneDisk.f p q=some (p,q):=by
 unfold impl_cloneDisk.f slices_Clone_string_string.f impl_Put.f
 rw [if_pos zq5,if_pos zq5]
 rfl
theorem writeI_f (z:(List ByteArray×List S110)) (a:Int) (t:ByteArray) (hp:z.1.length≤2000000) (hq:z.2.length≤2000000):impl_WritePage.f z.1 z.2 a t=some ((wrD z a t).1,(wrD z a t).2,wrOk z.1 z.2 a t):=by
 obtain ⟨p,q⟩:=z
 have w1:wrap64 ((p.length:Int)-1)=(p.length:Int)-1:=zM zq61 zq61
 have hq':q.length≤2000000:=hq
 unfold impl_WritePage.f impl_DiskOk.f impl_isPage.f impl_in.f wrD wrOk
 rw [cloneD_id2 p q hp hq,Option.bind_some,Option.bind_some,w1]
 have e:∀b:Bool,(if a≥0 then some (decide (a≤(p.length:Int)-1)) else some false)=some (inB a 0 ((p.length:Int)-1)):=fun _=>inS_f a 0 _
 show (if DOk p q=true then _ else _)=_
 cases h1:DOk p q with
 |false=>rfl
 |true=>
  rw [if_pos rfl]
  have e2:(if a≥0 then some (decide (a≤(p.length:Int)-1)) else some false)=some (inB a 0 ((p.length:Int)-1)):=e true
  cases h2:inB a 0 ((p.length:Int)-1) with
  |false=>
   rw [h2] at e2
   simp only [e2,Option.bind_some]
   rfl
  |true=>
   rw [h2] at e2
   simp only [e2,Option.bind_some,if_true]
   by_cases h3:(t.size:Int)>240
   ·have e3:bigT t=true:=decide_eq_true h3
    rw [if_pos h3,e3]
    rfl
   ·have e3:bigT t=false:=decide_eq_false h3
    rw [if_neg h3,e3]
    by_cases h4:(q.length:Int)≥200
    ·rw [if_pos h4,decide_eq_true h4]
     rfl
    ·rw [if_neg h4,decide_eq_false h4,if_pos zq5]
     rfl
theorem writeS_ev (z:(List ByteArray×List S110)) (a:Int) (t:ByteArray) (hp:z.1.length≤2000000) (hq:z.2.length≤2000000):Ev (fun k=>spec_WritePage.f k z.1 z.2 a t) ((wrD z a t).1,(wrD z a t).2,wrOk z.1 z.2 a t):=by
 obtain ⟨p,q⟩:=z
 have w1:wrap64 ((p.length:Int)-1)=(p.length:Int)-1:=zM zq61 zq61
 have hq':q.length≤2000000:=hq
 have hp':p.length≤2000000:=hp
 have eC:spec_l03Copy.f p q=some (p,q):=by
  unfold spec_l03Copy.f
  rw [Option.bind_some,if_pos (by rw [List.length_nil];omega),Option.bind_some,if_pos (by rw [List.length_nil];omega)]
  rfl
 have hD:=diskOkS_ev p q hp hq
 unfold wrD wrOk
 cases h1:DOk p q with
 |false=>
  rw [h1] at hD
  refine hD.imp ?_
  intro K hK k hk
  have hk:spec_DiskOk.f k p q=some _:=hK k hk
  show spec_WritePage.f k p q a t=_
  unfold spec_WritePage.f
  rw [eC,Option.bind_some,hk]
  rfl
 |true=>
  rw [h1] at hD
  have hle:(q.length:Int)≤200:=by
   have h2:=h1
   unfold DOk at h2
   simp only [Bool.and_eq_true,Bool.not_eq_true',decide_eq_false_iff_not] at h2
   have:=h2.1.1.2
   omega
  refine hD.imp ?_
  intro K hK k hk
  have hk:spec_DiskOk.f k p q=some _:=hK k hk
  show spec_WritePage.f k p q a t=_
  unfold spec_WritePage.f
  rw [eC,Option.bind_some,hk,Option.bind_some,if_pos rfl,w1,inS_f,Option.bind_some]
  show (if inB a 0 ((p.length:Int)-1)=true then (if (t.size:Int)>240 then some (p,q,false) else (if (q.length:Int)=200 then some (p,q,false) else (if q.length<5864062014805 then some (p,q++[(⟨a,t⟩:S110)],true) else none))) else some (p,q,false))=some ((if (true&&inB a 0 ((p.length:Int)-1)&& !bigT t&& !decide ((q.length:Int)≥200))=true then (p,q++[(⟨a,t⟩:S110)]) else (p,q)).1,(if (true&&inB a 0 ((p.length:Int)-1)&& !bigT t&& !decide ((q.length:Int)≥200))=true then (p,q++[(⟨a,t⟩:S110)]) else (p,q)).2,(true&&inB a 0 ((p.length:Int)-1)&& !bigT t&& !decide ((q.length:Int)≥200)))
  cases h2:inB a 0 ((p.length:Int)-1) with
  |false=>rfl
  |true=>
   rw [if_pos rfl]
   by_cases h3:(t.size:Int)>240
   ·have e3:bigT t=true:=decide_eq_true h3
    rw [if_pos h3,e3]
    rfl
   ·have e3:bigT t=false:=decide_eq_false h3
    rw [if_neg h3,e3]
    by_cases h4:(q.length:Int)≥200
    ·rw [if_pos (show (q.length:Int)=200 by omega),decide_eq_true h4]
     rfl
    ·rw [if_neg (show ¬(q.length:Int)=200 by omega),decide_eq_false h4,if_pos zq5]
     rfl
end Go.Proofs.YtonhdiemjgdcnaaGreat.PFnExactGivePage
namespace Go.Proofs.YtonhdiemjgdcnaaGreat.Opened
open Go.RowKit Go.Deep Go.WideShapes Go.Proofs.YtonhdiemjgdcnaaGreatW.PrintWords
def Opens {α:Type} (P:Program) (t:TypeId) (d:Kd α) (ok:α→Prop):Prop:=
 ∀(H:Type) (enc:TypeId×Value→H) (w:World) (base:Nat) (spare:Nat→Bool) (held:Bool) (fuel:Nat) (cs:List Value) (x:DataW H×List MemPlace),
  DataW.trod enc P w base spare held fuel t cs=some x→∃y:α,d.K w y cs∧ok y
variable {P:Program}
theorem zZa {t:TypeId} {k:IntKind} (hu:P.underlying t=some (.int k)):Opens P t (Kd.int k) (fun _=>True):=by
 intro H enc w base spare held fuel cs x h
 obtain ⟨n,rfl,_,_⟩:=DataW.trod_int hu h
 exact ⟨n,rfl,trivial⟩
theorem opens_string {t:TypeId} (hu:P.underlying t=some .string):Opens P t Kd.string (fun s=>s.size≤9223372036854775807):=by
 intro H enc w base spare held fuel cs x h
 obtain ⟨n,rfl,_,hs⟩:=DataW.trod_string hu h
 exact ⟨n,rfl,by unfold maxLen at hs;omega⟩
theorem list_of {α:Type} (n:Nat) (Q:Nat→α→Prop) (h:∀i,i<n→∃y,Q i y):∃ys:List α,ys.length=n∧∀j p,ys[j]?=some p→Q j p:=by
 induction n with
 |zero=>exact ⟨[],rfl,fun j p h=>by simp at h⟩
 |succ n ih=>
  obtain ⟨ys,hl,hy⟩:=ih (fun i hi=>h i zq5)
  obtain ⟨y,hq⟩:=h n zq5
  refine ⟨ys++[y],by simp [hl],fun j p hj=> ?_⟩
  rcases Nat.lt_or_ge j n with hlt|hge
  ·rw [List.getElem?_append_left zq5] at hj
   exact hy j p hj
  ·have hj':j=n:=by
    have:=(List.getElem?_eq_some_iff.1 hj).1
    rw [List.length_append,List.length_singleton] at this
    omega
   subst hj'
   have:y=p:=by rw [List.getElem?_append_right zq5,hl,Nat.sub_self] at hj;simpa using hj
   subst this
   exact hq
theorem zWa {t e:TypeId} {α:Type} {d:Kd α} {ok:α→Prop} (hu:P.underlying t=some (.slice e)) (he:Opens P e d ok) (hc:P.cellsOf e=d.sz) (n:Nat):Opens P t (Kd.slice n d) (fun ys=>∀y∈ys,ok y):=by
 intro H enc w base spare held fuel cs x h
 rcases open_slice hu h with ⟨rfl,_⟩|⟨a,len,cap,m,n',D,Pl,rfl,_,hl,hm,hmm,_,hel⟩
 ·exact ⟨[],⟨none,0,rfl,Nat.le_refl _,rfl,by simp,fun h=>by simp at h⟩,fun y hy=>by cases hy⟩
 ·have hlm:len≤m:=by
   rw [hmm]
   split<;>omega
  obtain ⟨ys,hy,hq⟩:=list_of len (fun i y=>ok y∧∃cs',w.cells? base (a.add (i*P.cellsOf e)) (P.cellsOf e)=some cs'∧d.K w y cs') (fun i hi=>by
   obtain ⟨cs',h1,h2⟩:=hel i zq5
   obtain ⟨y,hy,hok⟩:=he _ enc w base spare held n' cs' _ h2
   exact ⟨y,hok,cs',h1,hy⟩)
  subst hy
  refine ⟨ys,⟨some a,cap,rfl,hl,rfl,by unfold maxLen at hm;omega,fun _=>⟨a,rfl,fun j p hj=> ?_⟩⟩,fun y hy=> ?_⟩
  ·obtain ⟨_,cs',h1,h2⟩:=hq j p hj
   obtain ⟨_,h3,h4⟩:=World.cells?_some h1
   refine ⟨cs',h3.trans hc,h2,fun i u hi=> ?_⟩
   have hi':i<P.cellsOf e:=by
    have:=(List.getElem?_eq_some_iff.1 hi).1
    omega
   have:=h4 i hi'
   rw [Addr.add_add,hc] at this
   rw [this]
   exact hi
  ·obtain ⟨j,hj,rfl⟩:=List.getElem_of_mem hy
   exact (hq j _ (List.getElem?_eq_getElem hj)).1
def Parts {α:Type} (P:Program) (fs:List Field) (o:Nat) (d:Kd α) (ok:α→Prop):Prop:=
 ∀(H:Type) (enc:TypeId×Value→H) (w:World) (base:Nat) (spare:Nat→Bool) (held:Bool) (fuel:Nat) (cs:List Value),cs.length=o+d.sz→
  (∀f∈fs,∃x:DataW H×List MemPlace,DataW.trod enc P w base spare held fuel f.type ((cs.drop f.offset).take (P.cellsOf f.type))=some x)→∃y:α,d.K w y (cs.drop o)∧ok y
theorem zdb {α:Type} {d:Kd α} {ok:α→Prop} {f:Field} {o:Nat} (hf:Opens P f.type d ok) (ho:f.offset=o) (hc:P.cellsOf f.type=d.sz):Parts P [f] o d ok:=by
 intro H enc w base spare held fuel cs hl h
 obtain ⟨x,hx⟩:=h f zq15
 rw [ho,hc,List.take_of_length_le (by rw [List.length_drop];omega)] at hx
 exact hf _ enc w base spare held fuel _ x hx
theorem zsa {α β:Type} {d:Kd α} {ds:Kd β} {ok:α→Prop} {oks:β→Prop} {f:Field} {fs:List Field} {o o':Nat} (hf:Opens P f.type d ok) (ho:f.offset=o) (hc:P.cellsOf f.type=d.sz) (hs:Parts P fs o' ds oks) (ho':o'=o+d.sz):Parts P (f::fs) o (Kd.pair d ds) (fun p=>ok p.1∧oks p.2):=by
 intro H enc w base spare held fuel cs hl h
 subst ho'
 have hl':cs.length=o+(d.sz+ds.sz):=hl
 obtain ⟨x,hx⟩:=h f zq15
 rw [ho,hc] at hx
 obtain ⟨y,hy,oy⟩:=hf _ enc w base spare held fuel _ x hx
 obtain ⟨z,hz,oz⟩:=hs _ enc w base spare held fuel cs zq5 (fun g hg=>h g (by simp [hg]))
 refine ⟨(y,z),⟨(cs.drop o).take d.sz,cs.drop (o+d.sz),?_,hy,hz⟩,oy,oz⟩
 rw [←List.drop_drop]
 exact (List.take_append_drop _ _).symm
theorem zOa {t:TypeId} {fs:Array Field} {α β:Type} {d:Kd α} {ok:α→Prop} (hu:P.underlying t=some (.struct fs)) (hp:Parts P fs.toList 0 d ok) (hc:P.cellsOf t=d.sz) (f:β→α) (g:α→β) (hg:∀y,f (g y)=y):Opens P t (Kd.iso d f) (fun y=>ok (f y)):=by
 intro H enc w base spare held fuel cs x h
 obtain ⟨xs,n,_,_,hl,hlen,hi⟩:=DataW.trod_struct hu h
 obtain ⟨y,hy,oy⟩:=hp _ enc w base spare held n cs zq5 (fun fl hfl=>by
  obtain ⟨i,hlt,he⟩:=List.getElem_of_mem hfl
  have hlt':i<fs.size:=by simpa using hlt
  have:=hi i fl (by rw [Array.getElem?_eq_getElem hlt'];simpa using he)
  rw [List.getElem?_eq_getElem zq5] at this
  exact ⟨_,this⟩)
 refine ⟨g y,?_,?_⟩
 ·show d.K w (f (g y)) cs
  rw [hg]
  simpa using hy
 ·show ok (f (g y))
  rw [hg]
  exact oy
theorem arg_struct {t:TypeId} {fs:Array Field} {α:Type} {d:Kd α} {ok:α→Prop} (hu:P.underlying t=some (.struct fs)) (ho:Opens P t d ok) {H:Type} {enc:TypeId×Value→H} {w:World} {base b0:Nat} {spare:Nat→Bool} {held:Bool} {r:Reach} {v:Value} {x:DataW H} {p:List MemPlace}
  (hv:Value.okWide P w r b0 t v) (h:DataW.Trod enc P w base spare held t v x p):∃(y:α) (cs:List Value),v= .agg cs.toArray∧d.K w y cs∧ok y:=by
 obtain ⟨cs,rfl,_⟩:=okWide_struct hu hv
 obtain ⟨fuel,hf⟩:=h
 obtain ⟨y,hy,oy⟩:=ho _ enc w base spare held fuel _ _ hf
 exact ⟨y,cs.toList,by simp,by simpa [Value.cells] using hy,oy⟩
end Go.Proofs.YtonhdiemjgdcnaaGreat.Opened
namespace Go.Proofs.YtonhdiemjgdcnaaGreat.PFnExactGivePage
open Go.ChangeShapes Go.WideShapes Go.ChangeAt Go.RowKit
open Go.ChangeMaps (open_string shut_string)
open Go.Proofs.YtonhdiemjgdcnaaGreat.Opened Go.Proofs.YtonhdiemjgdcnaaGreatW.PrintWords
def dDisk:Kd (List ByteArray×List S156):=Kd.pair (Kd.slice 9 Kd.string) (Kd.slice 156 k156)
def okDisk (p:List ByteArray×List S156):Prop:=(∀s∈p.1,s.size≤9223372036854775807)∧∀s∈p.2,s.f1.size≤9223372036854775807
theorem opens156:Opens Tryz.prog 156 k156 (fun s=>s.f1.size≤9223372036854775807):=by
 have h:=zOa (P:=Tryz.prog) Tryz.underlying156 (zsa (zZa Tryz.underlying3) rfl zq7 (zdb (opens_string Tryz.underlying9) rfl zq7) rfl) zq7 (fun x:S156=>(x.f0,x.f1)) (fun p=>⟨p.1,p.2⟩) (fun _=>rfl)
 intro H enc w base spare held fuel cs x hx
 obtain ⟨y,h1,h2⟩:=h _ enc w base spare held fuel cs x hx
 exact ⟨y,h1,h2.2⟩
theorem opens28:Opens Tryz.prog 28 (Kd.iso dDisk id) okDisk:=
 zOa (P:=Tryz.prog) Tryz.underlying28 (zsa (zWa Tryz.underlying25 (opens_string Tryz.underlying9) zq7 9) rfl zq7 (zdb (zWa Tryz.underlying26 opens156 zq7 156) rfl zq7) rfl) zq7 id id (fun _=>rfl)
theorem opens_bool {P:Program} {t:TypeId} (hu:P.underlying t=some .bool):Opens P t Kd.bool (fun _=>True):=by
 intro H enc w base spare held fuel cs x h
 obtain ⟨n,rfl,_⟩:=DataW.trod_bool hu h
 exact ⟨n,rfl,trivial⟩
theorem opens140:Opens Tryz.prog 140 k140 (fun s=>True∧∀y∈s.f1,True):=
 zOa (P:=Tryz.prog) Tryz.underlying140 (zsa (zZa Tryz.underlying3) rfl zq7 (zdb (zWa Tryz.underlying29 (zZa Tryz.underlying3) zq7 3) rfl zq7) rfl) zq7 (fun x:S140=>(x.f0,x.f1)) (fun p=>⟨p.1,p.2⟩) (fun _=>rfl)
def dWork:Kd ((List ByteArray×List S156)×Int×List Int×List Int×List Int):=Kd.pair (Kd.iso dDisk id) (Kd.pair (Kd.int .i64) (Kd.pair (Kd.slice 3 (Kd.int .i64)) (Kd.pair (Kd.slice 3 (Kd.int .i64)) (Kd.slice 3 (Kd.int .i64)))))
theorem opensI:Opens Tryz.prog 29 (Kd.slice 3 (Kd.int .i64)) (fun ys=>∀y∈ys,True):=zWa Tryz.underlying29 (zZa Tryz.underlying3) zq7 3
def unW (p:(List ByteArray×List S156)×Int×List Int×List Int×List Int):(List ByteArray×List S156×Int×List Int×List Int×List Int):=(p.1.1,p.1.2,p.2)
def reW (p:(List ByteArray×List S156×Int×List Int×List Int×List Int)):(List ByteArray×List S156)×Int×List Int×List Int×List Int:=((p.1,p.2.1),p.2.2)
theorem opens31:∃ok,Opens Tryz.prog 31 (Kd.iso dWork reW) ok∧∀x,ok x→okDisk (x.1,x.2.1):=⟨_,
 zOa (P:=Tryz.prog) Tryz.underlying31 (zsa opens28 rfl zq7 (zsa (zZa Tryz.underlying3) rfl zq7 (zsa opensI rfl zq7 (zsa opensI rfl zq7 (zdb opensI rfl zq7) rfl) rfl) rfl) rfl) zq7 reW unW (fun _=>rfl),fun x h=>h.1⟩
def dTxn:Kd (S24×(List ByteArray×List S156×Int×List Int×List Int×List Int)×Int):=Kd.pair k24 (Kd.pair (Kd.iso dWork reW) (Kd.int .i64))
theorem C183_len {w:World} {A:Option Addr} {xs:List S140} (h:Kd.C k140 w A xs.length xs):INm xs:=by
 refine ⟨fun s hs=> ?_,h.2.1⟩
 obtain ⟨j,hj,rfl⟩:=List.getElem_of_mem hs
 obtain ⟨_,_,_,_,_,_,_,hC⟩:=at_T140 h (j:Int) zq5 zq5
 rw [rd_T140_nat _ _ hj] at hC
 exact hC.2.1
theorem K69_len {w:World} {x:S24} {cs:List Value} (h:k24.K w x cs):INm x.f3:=by
 obtain ⟨A,c,rfl,m,r⟩:=k24_open h
 exact C183_len r
theorem KW_len {w:World} {x:(List ByteArray×List S156×Int×List Int×List Int×List Int)} {cs:List Value} (h:kWorkL.K w x cs) (ho:okDisk (x.1,x.2.1)):INd x.1 x.2.1∧INi x.2.2.2.1∧INi x.2.2.2.2.1∧INi x.2.2.2.2.2:=by
 obtain ⟨l0,l1,l2,l3,l4,l5⟩:=x
 obtain ⟨A0,c0,A1,c1,A3,c3,A4,c4,A5,c5,rfl,m0,r0,m1,r1,m3,r3,m4,r4,m5,r5⟩:=kWorkL_open h
 exact ⟨⟨ho.1,r0.2.1,ho.2,r1.2.1⟩,r3.2.1,r4.2.1,r5.2.1⟩
theorem Kw_of {w:World} {x:(List ByteArray×List S156×Int×List Int×List Int×List Int)} {cs:List Value} (h:(Kd.iso dWork reW).K w x cs):kWorkL.K w x cs:=by
 obtain ⟨l0,l1,l2,l3,l4,l5⟩:=x
 obtain ⟨_,_,rfl,⟨_,_,rfl,⟨A0,c0,rfl,m0,r0⟩,⟨A1,c1,rfl,m1,r1⟩⟩,⟨_,_,rfl,rfl,⟨_,_,rfl,⟨A3,c3,rfl,m3,r3⟩,⟨_,_,rfl,⟨A4,c4,rfl,m4,r4⟩,⟨A5,c5,rfl,m5,r5⟩⟩⟩⟩⟩:=h
 exact kWorkL_mk m0 r0 m1 r1 m3 r3 m4 r4 m5 r5
theorem Kt_of {w:World} {x:(S24×(List ByteArray×List S156×Int×List Int×List Int×List Int)×Int)} {cs:List Value} (h:dTxn.K w x cs):kTxnL.K w x cs:=by
 obtain ⟨c0,c1,rfl,h0,c2,c3,rfl,h1,h2⟩:=h
 exact ⟨c0,_,rfl,h0,c2,c3,rfl,Kw_of h1,h2⟩
def INt (x:(S24×(List ByteArray×List S156×Int×List Int×List Int×List Int)×Int)):Prop:=INm x.1.f3∧INd x.2.1.1 x.2.1.2.1∧INi x.2.1.2.2.2.1∧INi x.2.1.2.2.2.2.1∧INi x.2.1.2.2.2.2.2
theorem KT_len {w:World} {x:(S24×(List ByteArray×List S156×Int×List Int×List Int×List Int)×Int)} {cs:List Value} (h:kTxnL.K w x cs) (ho:okDisk (x.2.1.1,x.2.1.2.1)):INt x:=by
 obtain ⟨c0,c1,rfl,h0,c2,c3,rfl,h1,h2⟩:=h
 exact ⟨K69_len h0,KW_len h1 ho⟩
theorem opens_intr {P:Program} {t:TypeId} (hu:P.underlying t=some (.int .i64)):Opens P t (Kd.int .i64) (fun x=>x≤9223372036854775807):=by
 intro H enc w base spare held fuel cs x h
 obtain ⟨n,rfl,_,hw⟩:=DataW.trod_int hu h
 refine ⟨n,rfl,?_⟩
 have h2:(decide (IntKind.i64.min≤n)&&decide (n≤IntKind.i64.max))=true:=hw
 rw [Bool.and_eq_true] at h2
 have h3:n≤IntKind.i64.max:=of_decide_eq_true h2.2
 exact Int.le_trans h3 zq14
theorem opens24r:Opens Tryz.prog 24 k24 (fun x=>x.f0≤9223372036854775807∧True∧True∧∀s∈x.f3,True∧∀y∈s.f1,True):=
 zOa (P:=Tryz.prog) Tryz.underlying24 (zsa (opens_intr Tryz.underlying3) rfl zq7 (zsa (zZa Tryz.underlying3) rfl zq7 (zsa (zZa Tryz.underlying3) rfl zq7 (zdb (zWa Tryz.underlying22 opens140 zq7 140) rfl zq7) rfl) rfl) rfl) zq7 (fun x:S24=>(x.f0,x.f1,x.f2,x.f3)) (fun p=>⟨p.1,p.2.1,p.2.2.1,p.2.2.2⟩) (fun _=>rfl)
theorem opens33r:∃ok,Opens Tryz.prog 33 (Kd.iso dTxn id) ok∧∀x,ok x→x.1.f0≤9223372036854775807∧okDisk (x.2.1.1,x.2.1.2.1):=by
 obtain ⟨ok,h,ho⟩:=opens31
 exact ⟨_,zOa (P:=Tryz.prog) Tryz.underlying33 (zsa opens24r rfl zq7 (zsa h rfl zq7 (zdb (zZa Tryz.underlying3) rfl zq7) rfl) rfl) zq7 id id (fun _=>rfl),fun x h=>⟨h.1.1,ho _ h.2.1⟩⟩
theorem open_txnr {H:Type} {enc:TypeId×Value→H} {w:World} {base b0:Nat} {spare:Nat→Bool} {held:Bool} {r:Reach} {v:Value} {x:DataW H} {p:List MemPlace} (hv:Value.okWide Tryz.prog w r b0 33 v) (h:DataW.Trod enc Tryz.prog w base spare held 33 v x p):
  ∃(a:(S24×(List ByteArray×List S156×Int×List Int×List Int×List Int)×Int)) (cs:List Value),v= .agg cs.toArray∧kTxnL.K w a cs∧INtr a:=by
 obtain ⟨ok,ho,hk⟩:=opens33r
 obtain ⟨a,cs,rfl,h1,h2⟩:=arg_struct Tryz.underlying33 ho hv h
 have g:=hk _ h2
 exact ⟨a,cs,rfl,Kt_of h1,g.1,KT_len (Kt_of h1) g.2⟩
end Go.Proofs.YtonhdiemjgdcnaaGreat.PFnExactGivePage
