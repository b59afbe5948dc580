import Derived.Test.YtonhdiemjgdcnaaOA6
import Derived.Shelf.Abstract
import Derived.ProofKit
import Derived.OpenShut
import Derived.Deep.Slices
import Derived.ShutString
import Derived.ChangeOld
import Derived.ChangeSlices
import Derived.SizedLaws
import Derived.WalkLawsBesides
set_option maxHeartbeats 64000000
set_option maxRecDepth 100000
set_option linter.unusedVariables false
set_option linter.unusedSimpArgs false
namespace Go.Proofs
theorem zq98{P:Prop}(h:P:=by
 cases hq:p y with
 |true=>
  rw [hq] at hcall
  go_wp2_with fail
  ((with_reducible refine hcall.mono ?_);rintro e w' ⟨rfl,hb'⟩)
  go_wp2
  go_ret
  refine ⟨?_,hb'⟩
  rw [idxF_hit hlt (by rw [B.1];exact hq) A0.1]
  rfl
 |false=>
  rw [hq] at hcall
  go_wp2_with fail
  ((with_reducible refine hcall.mono ?_);rintro e w' ⟨rfl,hb'⟩)
  go_wp2
  go_roundg (xs.length-(kk+1))
  case measure=>omega
  case rel=>
   have hw:wrap64 ((kk:Int)+1)=((kk+1:Nat):Int):=zq79
   refine ⟨kk+1,zq3,zq3,by first|rfl|exact congrArg (Value.int .i64) hw,⟨hb'⟩,⟨fun j hj hjk=> ?_⟩⟩
   by_cases e:j=kk
   ·subst e
    rw [B.1];exact hq
   ·exact A0.1 j hj zq3):P:=h
theorem zq150{P:Prop}(h:P:=by
 have hltz:¬(kk:Int)<(xs.length:Int):=zq3
 have:kk=xs.length:=zq3
 subst this
 go_wp2
 go_ret
 refine ⟨?_,BW.1⟩
 rw [idxF_miss (fun j hj=>A0.1 j hj hj)]
 rfl):P:=h
end Go.Proofs
namespace Go.Proofs.Ytonhdiemjgdcnaa.PFnExactGivePage
open Go.RowKit Go.Proofs.YtonhdiemjgdcnaaW.PrintWords Go.Proofs.YtonhdiemjgdcnaaW.PrintLast Go.Proofs.YtonhdiemjgdcnaaW.PrintMore
attribute [local go_sem] zV zU zia zha zP zN zS zT
mutual
def spec_DiskOk.l0:Nat→Int→List ByteArray→List (S135)→Option (Bool)
 |0,_,_,_=>none
 |k+1,x3,x174000,x174001=>if x3<(x174000.length:Int) then (if 0≤x3 then (if ((zkb ByteArray.empty x174000 x3).size:Int)>240 then (some false) else (spec_DiskOk.l0 k (wrap64 (x3+1)) x174000 x174001)) else (none)) else (spec_DiskOk.l1 k 0 x174000 x174001)
def spec_DiskOk.l1:Nat→Int→List ByteArray→List (S135)→Option (Bool)
 |0,_,_,_=>none
 |k+1,x4,x174000,x174001=>if x4<(x174001.length:Int) then (if 0≤x4 then ((spec_l01In.f ((zm x174001 x4).f0) 0 (wrap64 ((x174000.length:Int)-1))).bind fun t176=>(if t176=true then (if (((zm x174001 x4).f1).size:Int)>240 then (some false) else (spec_DiskOk.l1 k (wrap64 (x4+1)) x174000 x174001)) else (some false))) else (none)) else ((spec_l01In.f (x174000.length:Int) 4 40).bind fun t178=>(if t178=true then (some (decide ((x174001.length:Int)≤200))) else (some false)))
end
def spec_DiskOk.f (k:Nat) (l0_0:List ByteArray) (l0_1:List (S135)):Option (Bool):=spec_DiskOk.l0 k 0 l0_0 l0_1
theorem spec_DiskOk.calls (k:Nat) (A0:Option Addr) (c0:Nat) (l2:List ByteArray) (A1:Option Addr) (c1:Nat) (l3:List (S135)) (r:Bool) (w:World) (r0:Kd.C Kd.string w A0 l2.length l2) (h0:l2.length≤c0) (r1:Kd.C k135 w A1 l3.length l3) (h2:l3.length≤c1) (h:spec_DiskOk.f k l2 l3=some r):
  Calls Try.prog 64 #[.agg #[.slice A0 l2.length c0,.slice A1 l3.length c1]] w fun e w'=>e= .returned (.bool r)∧Below w.heap.size w w':=by
 have hu32:=Try.underlying32
 have R0:=zz r0
 clear r0 h0
 have R1:=zz r1
 clear r1 h2
 have HB:=zz (z0a w.heap.size w)
 have H:(spec_DiskOk.l0 k 0 l2 l3)=some r:=h
 clear h
 have H':=zz H
 clear H
 go_enter Try.func64,Try.ntmps64
 go_wp2_with (first|((with_reducible refine zg (N:=1) rfl ?_);(try (refine gate_guard zq19 ?_;dsimp only));refine zA rfl (N:=1) rfl (cs:= #[.slice A0 l2.length c0,.slice A1 l3.length c1]) (t:=32) zq26 ?_;intro g0 hg w2 hbox hb;have B0:=zz hbox;have G0:=zz (zq12:w.heap.size≤g0);replace HB:=zz (zf zq0 hb);clear hb hbox hg))
 repeat (go_quiet (first|((with_reducible refine zg (N:=1) rfl ?_);(try (refine gate_guard zq19 ?_;dsimp only));refine zA rfl (N:=1) rfl (cs:= #[.slice A0 l2.length c0,.slice A1 l3.length c1]) (t:=32) zq26 ?_;intro g0 hg w2 hbox hb;have B0:=zz hbox;have G0:=zz (zq12:w.heap.size≤g0);replace HB:=zz (zf zq0 hb);clear hb hbox hg));try go_wp2_with (first|((with_reducible refine zg (N:=1) rfl ?_);(try (refine gate_guard zq19 ?_;dsimp only));refine zA rfl (N:=1) rfl (cs:= #[.slice A0 l2.length c0,.slice A1 l3.length c1]) (t:=32) zq26 ?_;intro g0 hg w2 hbox hb;have B0:=zz hbox;have G0:=zz (zq12:w.heap.size≤g0);replace HB:=zz (zf zq0 hb);clear hb hbox hg)))
 go_loopg [3] k (fun kq v3 w'=>∃(x0:Int),v3= .int .i64 x0∧Z0 (spec_DiskOk.l0 kq x0 l2 l3=some r)∧Z0 (kq≤k)∧Z0 (w'.heap[g0]?=some (.cells #[(.slice A0 l2.length c0),(.slice A1 l3.length c1)] 32 (0,0)))∧Z0 (Below w.heap.size w w'))
 case atStart=>exact ⟨(0),zq10,H',⟨z2a _⟩,⟨by (with_reducible repeat (first|refine zC ?_ _|refine zH ?_|refine zo ?_ _));exact B0.1⟩,⟨zq4 G0.1⟩⟩
 case round=>
  clear H'
  obtain ⟨x0,rfl,HA,HK1,B0,HB⟩:=hrel
  cases gk with
  |zero=>exact absurd HA.1 (by simp [spec_DiskOk.l0])
  |succ k1=>
   have H:=HA.1
   clear HA
   simp only [spec_DiskOk.l0] at H
   by_cases c3:x0<(l2.length:Int)
   ·rw [if_pos c3] at H
    have c3b0:=z6 c3
    clear c3
    by_cases c4:0≤x0
    ·rw [if_pos c4] at H
     have c4b0:=z6 c4
     clear c4
     by_cases c5:((zkb ByteArray.empty l2 x0).size:Int)>240
     ·rw [if_pos c5] at H
      have c5b0:decide (240<((zkb ByteArray.empty l2 x0).size:Int))=true:=z6 c5
      have c5b1:decide (240<(zkb ByteArray.empty l2 x0).size)=true:=z6 zq3
      clear c5
      obtain rfl:=z5a H
      have h3:wr.cell? ⟨g0,0,none⟩=some (.slice A0 l2.length c0):=(zd B0.1 0).trans rfl
      have h4:wr.cell? ⟨g0,1,none⟩=some (.slice A1 l3.length c1):=(zd B0.1 1).trans rfl
      have h5:=zh B0.1 0
      have h6:=zh B0.1 1
      have p0:0≤(x0:Int):=z8 zq11
      have q0:x0<(l2.length:Int):=z8 zq11
      obtain ⟨b0,e0,k0⟩:=Kd.at_string R0.1 x0 p0 q0
      cases e0
      replace k0:=(HB.1.cell (z9 w _ k0)).trans k0
      replace p0:=eq_true p0
      replace q0:=eq_true q0
      go_wp2
      repeat (go_quiet (fail);try go_wp2)
      exact zq115
     ·rw [if_neg c5] at H
      have c5b0:decide (240<((zkb ByteArray.empty l2 x0).size:Int))=false:=z7 c5
      have c5b1:decide (240<(zkb ByteArray.empty l2 x0).size)=false:=z7 zq3
      clear c5
      have H':=zz H
      clear H
      have h7:wr.cell? ⟨g0,0,none⟩=some (.slice A0 l2.length c0):=(zd B0.1 0).trans rfl
      have h8:wr.cell? ⟨g0,1,none⟩=some (.slice A1 l3.length c1):=(zd B0.1 1).trans rfl
      have h9:=zh B0.1 0
      have h10:=zh B0.1 1
      have p0:0≤(x0:Int):=z8 zq11
      have q0:x0<(l2.length:Int):=z8 zq11
      obtain ⟨b0,e0,k0⟩:=Kd.at_string R0.1 x0 p0 q0
      cases e0
      replace k0:=(HB.1.cell (z9 w _ k0)).trans k0
      replace p0:=eq_true p0
      replace q0:=eq_true q0
      go_wp2
      repeat (go_quiet (fail);try go_wp2)
      go_roundg k1
      case measure=>have:=HK1.1;omega
      case rel=>exact ⟨(wrap64 (x0+1)),zq10,H',⟨zq37 HK1.1⟩,⟨by (with_reducible repeat (first|refine zC ?_ _|refine zH ?_|refine zo ?_ _));exact B0.1⟩,⟨zq4 G0.1⟩⟩
    ·exact zq110
   ·rw [if_neg c3] at H
    have c3b0:=z7 c3
    clear c3
    have H':=zz H
    clear H
    have h11:wr.cell? ⟨g0,0,none⟩=some (.slice A0 l2.length c0):=(zd B0.1 0).trans rfl
    have h12:wr.cell? ⟨g0,1,none⟩=some (.slice A1 l3.length c1):=(zd B0.1 1).trans rfl
    have h13:=zh B0.1 0
    have h14:=zh B0.1 1
    go_wp2
    repeat (go_quiet (fail);try go_wp2)
    go_loopg [4] k1 (fun kq v4 w'=>∃(x1:Int),v4= .int .i64 x1∧Z0 (spec_DiskOk.l1 kq x1 l2 l3=some r)∧Z0 (kq≤k1)∧Z0 (w'.heap[g0]?=some (.cells #[(.slice A0 l2.length c0),(.slice A1 l3.length c1)] 32 (0,0)))∧Z0 (Below w.heap.size w w'))
    case atStart=>exact ⟨(0),zq10,H',⟨z2a _⟩,⟨by (with_reducible repeat (first|refine zC ?_ _|refine zH ?_|refine zo ?_ _));exact B0.1⟩,⟨zq4 G0.1⟩⟩
    case round=>
     clear H'
     try clear c3
     try clear c3b0
     try clear c4
     try clear c4b0
     try clear c5
     try clear c5b0
     try clear c5b1
     try clear h3
     try clear h4
     try clear h7
     try clear h8
     try clear h11
     try clear h12
     try clear h5
     try clear h6
     try clear h9
     try clear h10
     try clear h13
     try clear h14
     try clear k0
     try clear p0
     try clear q0
     obtain ⟨x1,rfl,HA,HK2,B0,HB⟩:=hrel
     cases gk with
     |zero=>exact absurd HA.1 (by simp [spec_DiskOk.l1])
     |succ k2=>
      have H:=HA.1
      clear HA
      simp only [spec_DiskOk.l1] at H
      by_cases c9:x1<(l3.length:Int)
      ·rw [if_pos c9] at H
       have c9b0:=z6 c9
       clear c9
       by_cases c10:0≤x1
       ·rw [if_pos c10] at H
        have c10b0:=z6 c10
        clear c10
        replace H:=z1a H
        obtain ⟨t0,A2,H⟩:=H
        replace H:(if t0=true then (if (((zm l3 x1).f1).size:Int)>240 then (some false) else (spec_DiskOk.l1 k2 (wrap64 (x1+1)) l2 l3)) else (some false))=some r:=H
        have A3:=zz A2
        clear A2
        by_cases c11:t0=true
        ·subst c11
         rw [if_pos rfl] at H
         by_cases c14:(((zm l3 x1).f1).size:Int)>240
         ·rw [if_pos c14] at H
          have c15:decide (240<(((zm l3 x1).f1).size:Int))=true:=z6 c14
          have c16:decide (240<((zm l3 x1).f1).size)=true:=z6 zq3
          clear c14
          obtain rfl:=z5a H
          have hcz14_0:wr.cell? ⟨g0,0,none⟩=some (.slice A0 l2.length c0):=(zd B0.1 0).trans rfl
          have hcz14_1:wr.cell? ⟨g0,1,none⟩=some (.slice A1 l3.length c1):=(zd B0.1 1).trans rfl
          have hfz14_0:=zh B0.1 0
          have hfz14_1:=zh B0.1 1
          have p1:0≤(x1:Int):=z8 zq11
          have q1:x1<(l3.length:Int):=z8 zq11
          obtain ⟨b1,e1,k3,k4⟩:=zka R1.1 x1 p1 q1
          cases e1
          replace k3:=(HB.1.cell (z9 w _ k3)).trans k3
          replace k4:=(HB.1.cell (z9 w _ k4)).trans k4
          replace p1:=eq_true p1
          replace q1:=eq_true q1
          go_wp2_with (first|(go_at_call 108;(try simp only [zxa]);(with_reducible refine (spec_l01In.calls ((zm l3 x1).f0) 0 (wrap64 ((l2.length:Int)-1)) true _ A3.1).mono ?_);rintro e w' ⟨rfl,⟨nd,rfl⟩⟩;(try first|exact ⟨rfl,_,World.drewN_drewN _ _ _⟩|exact ⟨rfl,_,Eq.trans (World.drewN_drewN _ _ _) (congrArg (World.drewN _) (Nat.add_assoc _ _ _))⟩);have p2:0≤(x1:Int):=z8 zq11;have q2:x1<(l3.length:Int):=z8 zq11;obtain ⟨b2,e2,k5,k6⟩:=zka R1.1 x1 p2 q2;obtain rfl:b1=b2:=(by injection e2);replace k5:=(HB.1.cell (z9 w _ k5)).trans k5;replace k6:=(HB.1.cell (z9 w _ k6)).trans k6;replace p2:=eq_true p2;replace q2:=eq_true q2))
          repeat (go_quiet (first|(go_at_call 108;(try simp only [zxa]);(with_reducible refine (spec_l01In.calls ((zm l3 x1).f0) 0 (wrap64 ((l2.length:Int)-1)) true _ A3.1).mono ?_);rintro e w' ⟨rfl,⟨nd,rfl⟩⟩;(try first|exact ⟨rfl,_,World.drewN_drewN _ _ _⟩|exact ⟨rfl,_,Eq.trans (World.drewN_drewN _ _ _) (congrArg (World.drewN _) (Nat.add_assoc _ _ _))⟩);have p2:0≤(x1:Int):=z8 zq11;have q2:x1<(l3.length:Int):=z8 zq11;obtain ⟨b2,e2,k5,k6⟩:=zka R1.1 x1 p2 q2;obtain rfl:b1=b2:=(by injection e2);replace k5:=(HB.1.cell (z9 w _ k5)).trans k5;replace k6:=(HB.1.cell (z9 w _ k6)).trans k6;replace p2:=eq_true p2;replace q2:=eq_true q2));try go_wp2_with (first|(go_at_call 108;(try simp only [zxa]);(with_reducible refine (spec_l01In.calls ((zm l3 x1).f0) 0 (wrap64 ((l2.length:Int)-1)) true _ A3.1).mono ?_);rintro e w' ⟨rfl,⟨nd,rfl⟩⟩;(try first|exact ⟨rfl,_,World.drewN_drewN _ _ _⟩|exact ⟨rfl,_,Eq.trans (World.drewN_drewN _ _ _) (congrArg (World.drewN _) (Nat.add_assoc _ _ _))⟩);have p2:0≤(x1:Int):=z8 zq11;have q2:x1<(l3.length:Int):=z8 zq11;obtain ⟨b2,e2,k5,k6⟩:=zka R1.1 x1 p2 q2;obtain rfl:b1=b2:=(by injection e2);replace k5:=(HB.1.cell (z9 w _ k5)).trans k5;replace k6:=(HB.1.cell (z9 w _ k6)).trans k6;replace p2:=eq_true p2;replace q2:=eq_true q2)))
          exact zq115
         ·rw [if_neg c14] at H
          have c15:decide (240<(((zm l3 x1).f1).size:Int))=false:=z7 c14
          have c16:decide (240<((zm l3 x1).f1).size)=false:=z7 zq3
          clear c14
          have H':=zz H
          clear H
          have hcz15_0:wr.cell? ⟨g0,0,none⟩=some (.slice A0 l2.length c0):=(zd B0.1 0).trans rfl
          have hcz15_1:wr.cell? ⟨g0,1,none⟩=some (.slice A1 l3.length c1):=(zd B0.1 1).trans rfl
          have hfz15_0:=zh B0.1 0
          have hfz15_1:=zh B0.1 1
          have p1:0≤(x1:Int):=z8 zq11
          have q1:x1<(l3.length:Int):=z8 zq11
          obtain ⟨b1,e1,k3,k4⟩:=zka R1.1 x1 p1 q1
          cases e1
          replace k3:=(HB.1.cell (z9 w _ k3)).trans k3
          replace k4:=(HB.1.cell (z9 w _ k4)).trans k4
          replace p1:=eq_true p1
          replace q1:=eq_true q1
          go_wp2_with (first|(go_at_call 108;(try simp only [zxa]);(with_reducible refine (spec_l01In.calls ((zm l3 x1).f0) 0 (wrap64 ((l2.length:Int)-1)) true _ A3.1).mono ?_);rintro e w' ⟨rfl,⟨nd,rfl⟩⟩;(try first|exact ⟨rfl,_,World.drewN_drewN _ _ _⟩|exact ⟨rfl,_,Eq.trans (World.drewN_drewN _ _ _) (congrArg (World.drewN _) (Nat.add_assoc _ _ _))⟩);have p2:0≤(x1:Int):=z8 zq11;have q2:x1<(l3.length:Int):=z8 zq11;obtain ⟨b2,e2,k5,k6⟩:=zka R1.1 x1 p2 q2;obtain rfl:b1=b2:=(by injection e2);replace k5:=(HB.1.cell (z9 w _ k5)).trans k5;replace k6:=(HB.1.cell (z9 w _ k6)).trans k6;replace p2:=eq_true p2;replace q2:=eq_true q2))
          repeat (go_quiet (first|(go_at_call 108;(try simp only [zxa]);(with_reducible refine (spec_l01In.calls ((zm l3 x1).f0) 0 (wrap64 ((l2.length:Int)-1)) true _ A3.1).mono ?_);rintro e w' ⟨rfl,⟨nd,rfl⟩⟩;(try first|exact ⟨rfl,_,World.drewN_drewN _ _ _⟩|exact ⟨rfl,_,Eq.trans (World.drewN_drewN _ _ _) (congrArg (World.drewN _) (Nat.add_assoc _ _ _))⟩);have p2:0≤(x1:Int):=z8 zq11;have q2:x1<(l3.length:Int):=z8 zq11;obtain ⟨b2,e2,k5,k6⟩:=zka R1.1 x1 p2 q2;obtain rfl:b1=b2:=(by injection e2);replace k5:=(HB.1.cell (z9 w _ k5)).trans k5;replace k6:=(HB.1.cell (z9 w _ k6)).trans k6;replace p2:=eq_true p2;replace q2:=eq_true q2));try go_wp2_with (first|(go_at_call 108;(try simp only [zxa]);(with_reducible refine (spec_l01In.calls ((zm l3 x1).f0) 0 (wrap64 ((l2.length:Int)-1)) true _ A3.1).mono ?_);rintro e w' ⟨rfl,⟨nd,rfl⟩⟩;(try first|exact ⟨rfl,_,World.drewN_drewN _ _ _⟩|exact ⟨rfl,_,Eq.trans (World.drewN_drewN _ _ _) (congrArg (World.drewN _) (Nat.add_assoc _ _ _))⟩);have p2:0≤(x1:Int):=z8 zq11;have q2:x1<(l3.length:Int):=z8 zq11;obtain ⟨b2,e2,k5,k6⟩:=zka R1.1 x1 p2 q2;obtain rfl:b1=b2:=(by injection e2);replace k5:=(HB.1.cell (z9 w _ k5)).trans k5;replace k6:=(HB.1.cell (z9 w _ k6)).trans k6;replace p2:=eq_true p2;replace q2:=eq_true q2)))
          go_roundg k2
          case measure=>have:=HK1.1;have:=HK2.1;omega
          case rel=>exact ⟨(wrap64 (x1+1)),zq10,H',⟨by have:=HK1.1;have:=HK2.1;omega⟩,⟨by (with_reducible repeat (first|refine zC ?_ _|refine zH ?_|refine zo ?_ _));exact B0.1⟩,⟨zq4 G0.1⟩⟩
        ·replace c11:=Bool.eq_false_iff.mpr c11
         subst c11
         rw [if_neg (show ¬(false=true) by decide)] at H
         obtain rfl:=z5a H
         have hcz16_0:wr.cell? ⟨g0,0,none⟩=some (.slice A0 l2.length c0):=(zd B0.1 0).trans rfl
         have hcz16_1:wr.cell? ⟨g0,1,none⟩=some (.slice A1 l3.length c1):=(zd B0.1 1).trans rfl
         have hfz16_0:=zh B0.1 0
         have hfz16_1:=zh B0.1 1
         have p1:0≤(x1:Int):=z8 zq11
         have q1:x1<(l3.length:Int):=z8 zq11
         obtain ⟨b1,e1,k3,k4⟩:=zka R1.1 x1 p1 q1
         cases e1
         replace k3:=(HB.1.cell (z9 w _ k3)).trans k3
         replace k4:=(HB.1.cell (z9 w _ k4)).trans k4
         replace p1:=eq_true p1
         replace q1:=eq_true q1
         go_wp2_with (first|(go_at_call 108;(try simp only [zxa]);(with_reducible refine (spec_l01In.calls ((zm l3 x1).f0) 0 (wrap64 ((l2.length:Int)-1)) false _ A3.1).mono ?_);rintro e w' ⟨rfl,⟨nd,rfl⟩⟩;(try first|exact ⟨rfl,_,World.drewN_drewN _ _ _⟩|exact ⟨rfl,_,Eq.trans (World.drewN_drewN _ _ _) (congrArg (World.drewN _) (Nat.add_assoc _ _ _))⟩)))
         repeat (go_quiet (first|(go_at_call 108;(try simp only [zxa]);(with_reducible refine (spec_l01In.calls ((zm l3 x1).f0) 0 (wrap64 ((l2.length:Int)-1)) false _ A3.1).mono ?_);rintro e w' ⟨rfl,⟨nd,rfl⟩⟩;(try first|exact ⟨rfl,_,World.drewN_drewN _ _ _⟩|exact ⟨rfl,_,Eq.trans (World.drewN_drewN _ _ _) (congrArg (World.drewN _) (Nat.add_assoc _ _ _))⟩)));try go_wp2_with (first|(go_at_call 108;(try simp only [zxa]);(with_reducible refine (spec_l01In.calls ((zm l3 x1).f0) 0 (wrap64 ((l2.length:Int)-1)) false _ A3.1).mono ?_);rintro e w' ⟨rfl,⟨nd,rfl⟩⟩;(try first|exact ⟨rfl,_,World.drewN_drewN _ _ _⟩|exact ⟨rfl,_,Eq.trans (World.drewN_drewN _ _ _) (congrArg (World.drewN _) (Nat.add_assoc _ _ _))⟩))))
         exact zq115
       ·rw [if_neg c10] at H
        exact absurd H zq29
      ·rw [if_neg c9] at H
       have c9b0:=z7 c9
       clear c9
       replace H:=z1a H
       obtain ⟨t1,A4,H⟩:=H
       replace H:(if t1=true then (some (decide ((l3.length:Int)≤200))) else (some false))=some r:=H
       have A5:=zz A4
       clear A4
       by_cases c17:t1=true
       ·subst c17
        rw [if_pos rfl] at H
        obtain rfl:=z5a H
        have hcz19_0:wr.cell? ⟨g0,0,none⟩=some (.slice A0 l2.length c0):=(zd B0.1 0).trans rfl
        have hcz19_1:wr.cell? ⟨g0,1,none⟩=some (.slice A1 l3.length c1):=(zd B0.1 1).trans rfl
        have hfz19_0:=zh B0.1 0
        have hfz19_1:=zh B0.1 1
        go_wp2_with (first|(go_at_call 108;(with_reducible refine (spec_l01In.calls (l2.length:Int) 4 40 true _ A5.1).mono ?_);rintro e w' ⟨rfl,⟨nd,rfl⟩⟩;(try first|exact ⟨rfl,_,World.drewN_drewN _ _ _⟩|exact ⟨rfl,_,Eq.trans (World.drewN_drewN _ _ _) (congrArg (World.drewN _) (Nat.add_assoc _ _ _))⟩)))
        repeat (go_quiet (first|(go_at_call 108;(with_reducible refine (spec_l01In.calls (l2.length:Int) 4 40 true _ A5.1).mono ?_);rintro e w' ⟨rfl,⟨nd,rfl⟩⟩;(try first|exact ⟨rfl,_,World.drewN_drewN _ _ _⟩|exact ⟨rfl,_,Eq.trans (World.drewN_drewN _ _ _) (congrArg (World.drewN _) (Nat.add_assoc _ _ _))⟩)));try go_wp2_with (first|(go_at_call 108;(with_reducible refine (spec_l01In.calls (l2.length:Int) 4 40 true _ A5.1).mono ?_);rintro e w' ⟨rfl,⟨nd,rfl⟩⟩;(try first|exact ⟨rfl,_,World.drewN_drewN _ _ _⟩|exact ⟨rfl,_,Eq.trans (World.drewN_drewN _ _ _) (congrArg (World.drewN _) (Nat.add_assoc _ _ _))⟩))))
        exact zq115
       ·replace c17:=Bool.eq_false_iff.mpr c17
        subst c17
        rw [if_neg (show ¬(false=true) by decide)] at H
        obtain rfl:=z5a H
        have hcz20_0:wr.cell? ⟨g0,0,none⟩=some (.slice A0 l2.length c0):=(zd B0.1 0).trans rfl
        have hcz20_1:wr.cell? ⟨g0,1,none⟩=some (.slice A1 l3.length c1):=(zd B0.1 1).trans rfl
        have hfz20_0:=zh B0.1 0
        have hfz20_1:=zh B0.1 1
        go_wp2_with (first|(go_at_call 108;(with_reducible refine (spec_l01In.calls (l2.length:Int) 4 40 false _ A5.1).mono ?_);rintro e w' ⟨rfl,⟨nd,rfl⟩⟩;(try first|exact ⟨rfl,_,World.drewN_drewN _ _ _⟩|exact ⟨rfl,_,Eq.trans (World.drewN_drewN _ _ _) (congrArg (World.drewN _) (Nat.add_assoc _ _ _))⟩)))
        repeat (go_quiet (first|(go_at_call 108;(with_reducible refine (spec_l01In.calls (l2.length:Int) 4 40 false _ A5.1).mono ?_);rintro e w' ⟨rfl,⟨nd,rfl⟩⟩;(try first|exact ⟨rfl,_,World.drewN_drewN _ _ _⟩|exact ⟨rfl,_,Eq.trans (World.drewN_drewN _ _ _) (congrArg (World.drewN _) (Nat.add_assoc _ _ _))⟩)));try go_wp2_with (first|(go_at_call 108;(with_reducible refine (spec_l01In.calls (l2.length:Int) 4 40 false _ A5.1).mono ?_);rintro e w' ⟨rfl,⟨nd,rfl⟩⟩;(try first|exact ⟨rfl,_,World.drewN_drewN _ _ _⟩|exact ⟨rfl,_,Eq.trans (World.drewN_drewN _ _ _) (congrArg (World.drewN _) (Nat.add_assoc _ _ _))⟩))))
        exact zq115
end Go.Proofs.Ytonhdiemjgdcnaa.PFnExactGivePage
namespace Go.Proofs.Ytonhdiemjgdcnaa.PFnExactGivePage
open Go.RowKit Go.Shelf Go.Proofs.YtonhdiemjgdcnaaW.PrintWords Go.Proofs.YtonhdiemjgdcnaaW.PrintLast Go.Proofs.YtonhdiemjgdcnaaW.PrintMore
attribute [local go_sem] zV zU zia zha zP zN zS zT
def idxF {α:Type} (p:α→Bool) (xs:List α):Int:=if xs.any p then (xs.findIdx p:Int) else-1
theorem idxF_hit {α:Type} {p:α→Bool} {xs:List α} {k:Nat} (hk:k<xs.length) (h:p xs[k]=true) (hb:∀j (hj:j<xs.length),j<k→p xs[j]=false):idxF p xs=(k:Int):=by
 unfold idxF
 rw [if_pos (List.any_eq_true.2 ⟨xs[k],List.getElem_mem hk,h⟩),(List.findIdx_eq hk).2 ⟨h,fun j hj=>hb j zq3 hj⟩]
theorem idxF_miss {α:Type} {p:α→Bool} {xs:List α} (hb:∀j (hj:j<xs.length),p xs[j]=false):idxF p xs= -1:=by
 unfold idxF
 rw [if_neg (fun h=>by
  obtain ⟨x,hx,hp⟩:=List.any_eq_true.1 h
  obtain ⟨j,hj,rfl⟩:=List.getElem_of_mem hx
  rw [hb j hj] at hp
  cases hp)]
theorem idxF_any {α:Type} (p:α→Bool) (xs:List α):decide (0≤idxF p xs)=xs.any p:=by
 unfold idxF
 cases h:xs.any p
 ·rfl
 ·simp
theorem rdOf_at {α:Type} (d:α) (xs:List α) (k:Nat) (hk:k<xs.length):zkb d xs (k:Int)=xs[k]:=by
 simp [zkb,List.getD_eq_getElem?_getD,List.getElem?_eq_getElem hk]
def PredB {α:Type} (g:Nat) (lb:Array Value) (enc:α→Value) (p:α→Bool) (w:World):Prop:=
 ∀(W:World) (x:α),Below w.heap.size w W→Calls Try.prog g (#[enc x]++lb) W fun e w'=>e= .returned (.bool (p x))∧Below w.heap.size w w'
theorem IndexFunc_string (g:Nat) (lb:Array Value) (p:ByteArray→Bool) (eg:∀args w,(callFunc g args).run Try.prog w= .ok (.enter g args) w) (A:Option Addr) (c:Nat) (xs:List ByteArray) (w:World)
  (hr:Kd.C Kd.string w A xs.length xs) (hp:PredB g lb Value.string p w):
  Calls Try.prog 156 #[.slice A xs.length c,.func (.func g) #[] lb] w fun e w'=>e= .returned (.int .i64 (idxF p xs))∧Below w.heap.size w w':=by
 have HR:=zz hr
 have HP:=zz hp
 have hbig:=hr.2.1
 clear hr hp
 go_enter Try.func156,Try.ntmps156
 go_wp2
 go_loopg [5,8] xs.length (fun gg _ s8 wr=>∃kk:Nat,kk≤xs.length∧xs.length-kk≤gg∧s8= .int .i64 kk∧Z0 (Below w.heap.size w wr)∧Z0 (∀j (hj:j<xs.length),j<kk→p xs[j]=false))
 case atStart=>exact ⟨0,z7a _,zq3,rfl,⟨z0a _ w⟩,⟨fun j hj h=>absurd h (Nat.not_lt_zero _)⟩⟩
 case round=>
  obtain ⟨kk,hkk,hg,rfl,BW,A0⟩:=hrel
  by_cases hlt:kk<xs.length
  ·have hltz:(kk:Int)<(xs.length:Int):=zq3
   obtain ⟨ad,rfl,hcell⟩:=Kd.at_string (Kd.C_below HR.1 BW.1) (kk:Int) zq3 hltz
   rw [rdOf_at _ _ _ hlt,Int.toNat_natCast] at hcell
   have hcall:=HP.1 wr xs[kk] BW.1
   obtain ⟨y,hy⟩:∃y,xs[kk]=y:=⟨_,rfl⟩
   rw [hy] at hcell hcall
   have B:=zz hy
   clear hy
   exact zq98
  ·exact zq150
theorem ContainsFunc_string (g:Nat) (lb:Array Value) (p:ByteArray→Bool) (eg:∀args w,(callFunc g args).run Try.prog w= .ok (.enter g args) w) (A:Option Addr) (c:Nat) (xs:List ByteArray) (w:World)
  (hr:Kd.C Kd.string w A xs.length xs) (hp:PredB g lb Value.string p w):
  Calls Try.prog 122 #[.slice A xs.length c,.func (.func g) #[] lb] w fun e w'=>e= .returned (.bool (xs.any p))∧Below w.heap.size w w':=by
 rw [←idxF_any]
 have HI:=zz (IndexFunc_string g lb p eg A c xs w hr hp)
 clear hr hp
 generalize idxF p xs=r at HI ⊢
 go_enter Try.func122,Try.ntmps122
 go_wp2_with fail
 ((with_reducible refine HI.1.mono ?_);rintro e w' ⟨rfl,hb'⟩)
 go_wp2
 go_ret
 exact ⟨rfl,hb'⟩
theorem rdP_nat (xs:List S135) (k:Nat) (hk:k<xs.length):zm xs (k:Int)=xs[k]:=by
 simp [zm,List.getD_eq_getElem?_getD,List.getElem?_eq_getElem hk]
def encP (x:S135):Value:= .agg #[.int .i64 x.f0,.string x.f1]
theorem IndexFunc_pair (g:Nat) (lb:Array Value) (p:S135→Bool) (eg:∀args w,(callFunc g args).run Try.prog w= .ok (.enter g args) w) (A:Option Addr) (c:Nat) (xs:List S135) (w:World)
  (hr:Kd.C k135 w A xs.length xs) (hp:PredB g lb encP p w):
  Calls Try.prog 157 #[.slice A xs.length c,.func (.func g) #[] lb] w fun e w'=>e= .returned (.int .i64 (idxF p xs))∧Below w.heap.size w w':=by
 have HR:=zz hr
 have HP:=zz hp
 have hbig:=hr.2.1
 clear hr hp
 go_enter Try.func157,Try.ntmps157
 go_wp2
 go_loopg [5,8] xs.length (fun gg _ s8 wr=>∃kk:Nat,kk≤xs.length∧xs.length-kk≤gg∧s8= .int .i64 kk∧Z0 (Below w.heap.size w wr)∧Z0 (∀j (hj:j<xs.length),j<kk→p xs[j]=false))
 case atStart=>exact ⟨0,z7a _,zq3,rfl,⟨z0a _ w⟩,⟨fun j hj h=>absurd h (Nat.not_lt_zero _)⟩⟩
 case round=>
  obtain ⟨kk,hkk,hg,rfl,BW,A0⟩:=hrel
  by_cases hlt:kk<xs.length
  ·have hltz:(kk:Int)<(xs.length:Int):=zq3
   obtain ⟨ad,rfl,hcell,hcell1⟩:=zka (Kd.C_below HR.1 BW.1) (kk:Int) zq3 hltz
   rw [rdP_nat _ _ hlt,Int.toNat_natCast] at hcell hcell1
   have hcall:=HP.1 wr xs[kk] BW.1
   obtain ⟨y,hy⟩:∃y,xs[kk]=y:=⟨_,rfl⟩
   rw [hy] at hcell hcell1 hcall
   have B:=zz hy
   clear hy
   unfold encP at hcall
   exact zq98
  ·exact zq150
theorem ContainsFunc_pair (g:Nat) (lb:Array Value) (p:S135→Bool) (eg:∀args w,(callFunc g args).run Try.prog w= .ok (.enter g args) w) (A:Option Addr) (c:Nat) (xs:List S135) (w:World)
  (hr:Kd.C k135 w A xs.length xs) (hp:PredB g lb encP p w):
  Calls Try.prog 124 #[.slice A xs.length c,.func (.func g) #[] lb] w fun e w'=>e= .returned (.bool (xs.any p))∧Below w.heap.size w w':=by
 rw [←idxF_any]
 have HI:=zz (IndexFunc_pair g lb p eg A c xs w hr hp)
 clear hr hp
 generalize idxF p xs=r at HI ⊢
 go_enter Try.func124,Try.ntmps124
 go_wp2_with fail
 ((with_reducible refine HI.1.mono ?_);rintro e w' ⟨rfl,hb'⟩)
 go_wp2
 go_ret
 exact ⟨rfl,hb'⟩
def bigT (s:ByteArray):Bool:=decide ((s.size:Int)>240)
theorem predBig (w:World):PredB 123 #[] Value.string bigT w:=fun W x hb=>by
 show Calls Try.prog 123 #[.string x] W _
 go_enter Try.func123,Try.ntmps123
 go_wp2
 all_goals (go_ret;exact ⟨by first|rfl|simp_all [bigT],hb⟩)
theorem enters123:∀args w,(callFunc 123 args).run Try.prog w= .ok (.enter 123 args) w:=enters_of Try.func123 zq8 rfl
def badP (n:Nat) (p:S135):Bool:= !inB p.f0 0 ((n:Int)-1)||bigT p.f1
theorem predPut (l0:List ByteArray) (l1:List S135) (B:Nat) (w:World) {A0 A1:Option Addr} {c0 c1:Nat} (hbox:w.heap[B]?=some (.cells #[.slice A0 l0.length c0,.slice A1 l1.length c1] 32 (0,0)))
  (m0:l0.length≤c0) (r0:Kd.C Kd.string w A0 l0.length l0) (m1:l1.length≤c1) (r1:Kd.C k135 w A1 l1.length l1) (hl:l0.length≤9223372036854775807):
  PredB 125 #[.pointer (some ⟨B,0,none⟩)] encP (badP l0.length) w:=fun W x hb=>by
 have hw1:wrap64 ((l0.length:Int)-1)=(l0.length:Int)-1:=zq79
 have HC:=zz (impl_isPage.calls A0 c0 l0 A1 c1 l1 x.f0 (inB x.f0 0 ((l0.length:Int)-1)) (W.alloc (.cells #[.int .i64 x.f0,.string x.f1] 135)) (Kd.C_below r0 (zi hb _)) m0 (Kd.C_below r1 (zi hb _)) m1 (by
  unfold impl_isPage.f impl_in.f inB
  rw [hw1]
  by_cases h:(0:Int)≤x.f0
  ·rw [if_pos h,decide_eq_true h];rfl
  ·rw [if_neg h,decide_eq_false h];rfl))
 have hb2:=zi hb (.cells #[.int .i64 x.f0,.string x.f1] 135)
 have hB:=zE hbox
 have bx:=zj hbox hb2
 have g0:(W.alloc (.cells #[.int .i64 x.f0,.string x.f1] 135)).cell? ⟨B,0,none⟩=some (.slice A0 l0.length c0):=by rw [zd bx];rfl
 have g1:(W.alloc (.cells #[.int .i64 x.f0,.string x.f1] 135)).cell? ⟨B,1,none⟩=some (.slice A1 l1.length c1):=by rw [zd bx];rfl
 have p0:(W.alloc (.cells #[.int .i64 x.f0,.string x.f1] 135)).cell? ⟨W.heap.size,0,none⟩=some (.int .i64 x.f0):=by rw [World.cell?_alloc_at _ _ _ _ rfl];rfl
 have bx2:(W.alloc (.cells #[.int .i64 x.f0,.string x.f1] 135)).heap[W.heap.size]?=some (.cells #[.int .i64 x.f0,.string x.f1] 135 (0,0)):=zM W _
 have BX2:=zz bx2
 have HB2:=zz hb2
 have p1:(W.alloc (.cells #[.int .i64 x.f0,.string x.f1] 135)).cell? ⟨W.heap.size,1,none⟩=some (.string x.f1):=by rw [zd bx2];rfl
 have e_:badP l0.length x=(!inB x.f0 0 ((l0.length:Int)-1)||bigT x.f1):=rfl
 rw [e_]
 unfold encP
 clear hbox bx bx2 hb2 r0 r1 e_ hw1
 generalize inB x.f0 0 ((l0.length:Int)-1)=bb at HC ⊢
 have HX:=zz (show ∀w1,Below (W.alloc (.cells #[.int .i64 x.f0,.string x.f1] 135)).heap.size (W.alloc (.cells #[.int .i64 x.f0,.string x.f1] 135)) w1→w1.cell? ⟨W.heap.size,1,none⟩=some (.string x.f1) from fun w1 hb=>by rw [zd (zj BX2.1 hb)];rfl)
 show Calls Try.prog 125 #[.agg #[.int .i64 x.f0,.string x.f1],.pointer (some ⟨B,0,none⟩)] W _
 cases bb<;>(
  go_enter Try.func125,Try.ntmps125
  go_wp2_with ((with_reducible refine HC.1.mono ?_);rintro e w1 ⟨rfl,hb1⟩;have p2:=HX.1 w1 hb1;have HB1:=zz hb1;clear hb1)
  all_goals (go_ret;exact ⟨by first|rfl|simp_all [bigT],zf HB2.1 HB1.1⟩))
theorem enters125:∀args w,(callFunc 125 args).run Try.prog w= .ok (.enter 125 args) w:=enters_of Try.func125 zq8 rfl
def DOk (l0:List ByteArray) (l1:List S135):Bool:=inB (l0.length:Int) 4 40&& !decide ((l1.length:Int)>200)&& !l0.any bigT&& !l1.any (badP l0.length)
def impl_DiskOk.f (l0_0:List ByteArray) (l0_1:List S135):Option Bool:=some (DOk l0_0 l0_1)
theorem impl_DiskOk.calls (A0:Option Addr) (c0:Nat) (l2:List ByteArray) (A1:Option Addr) (c1:Nat) (l3:List S135) (r:Bool) (w:World) (r0:Kd.C Kd.string w A0 l2.length l2) (h0:l2.length≤c0) (r1:Kd.C k135 w A1 l3.length l3) (h2:l3.length≤c1) (h:impl_DiskOk.f l2 l3=some r):
  Calls Try.prog 68 #[.agg #[.slice A0 l2.length c0,.slice A1 l3.length c1]] w fun e w'=>e= .returned (.bool r)∧Below w.heap.size w w':=by
 obtain rfl:=z5a h
 have hn:=r0.2.1
 obtain ⟨w1,hw1⟩:∃w1,w1=w.alloc (.cells #[.slice A0 l2.length c0,.slice A1 l3.length c1] 32):=⟨_,rfl⟩
 have bl:Below w.heap.size w w1:=by rw [hw1];exact zi (z0a _ w) _
 have bx:w1.heap[w.heap.size]?=some (.cells #[.slice A0 l2.length c0,.slice A1 l3.length c1] 32 (0,0)):=by rw [hw1];exact zM w _
 have HB:=zz bl
 have HE:=zz (show DOk l2 l3=(inB (l2.length:Int) 4 40&& !decide ((l3.length:Int)>200)&& !l2.any bigT&& !l3.any (badP l2.length)) from rfl)
 rw [HE.1]
 obtain ⟨b2,e2⟩:∃b,b=l2.any bigT:=⟨_,rfl⟩
 obtain ⟨b3,e3⟩:∃b,b=l3.any (badP l2.length):=⟨_,rfl⟩
 obtain ⟨b0,e0⟩:∃b,b=inB (l2.length:Int) 4 40:=⟨_,rfl⟩
 have HI:=zz (show ∀W,Calls Try.prog 121 #[.int .i64 (l2.length:Int),.int .i64 4,.int .i64 40] W fun e w'=>e= .returned (.bool b0)∧W=w' from fun W=>by rw [e0];exact inI _ _ _ W)
 have HS:=zz (show ∀W,Below w.heap.size w W→Calls Try.prog 122 #[.slice A0 l2.length c0,.func (.func 123) #[] #[]] W fun e w'=>e= .returned (.bool b2)∧Below W.heap.size W w' from fun W hb=>by rw [e2];exact ContainsFunc_string 123 #[] bigT enters123 A0 c0 l2 W (Kd.C_below r0 hb) (predBig W))
 have HP:=zz (show ∀W,Below w1.heap.size w1 W→Calls Try.prog 124 #[.slice A1 l3.length c1,.func (.func 125) #[] #[.pointer (some ⟨w.heap.size,0,none⟩)]] W fun e w'=>e= .returned (.bool b3)∧Below W.heap.size W w' from fun W hb=>by
  rw [e3]
  exact ContainsFunc_pair 125 #[.pointer (some ⟨w.heap.size,0,none⟩)] (badP l2.length) enters125 A1 c1 l3 W (Kd.C_below (Kd.C_below r1 bl) hb) (predPut l2 l3 w.heap.size W (zj bx hb) h0 (Kd.C_below (Kd.C_below r0 bl) hb) h2 (Kd.C_below (Kd.C_below r1 bl) hb) hn))
 rw [←e0,←e2,←e3]
 have HC:=zz (show ∀W,Below w1.heap.size w1 W→W.cell? ⟨w.heap.size,0,none⟩=some (.slice A0 l2.length c0)∧W.cell? ⟨w.heap.size,1,none⟩=some (.slice A1 l3.length c1) from fun W hb=>by
  have g:=zj bx hb
  exact ⟨by rw [zd g];rfl,by rw [zd g];rfl⟩)
 have H1:=zz hw1
 clear e0 e2 e3 bl bx r0 r1 hw1 h HE
 by_cases h1:(l3.length:Int)>200
 ·have q1:=z6 h1
  have D1:=zz q1
  clear h1
  cases b0<;>(
   go_enter Try.func68,Try.ntmps68
   go_wp2_with ((with_reducible refine (HI.1 _).mono ?_);rintro e w2 ⟨rfl,rfl⟩)
   all_goals (go_ret;exact ⟨by rw [D1.1];rfl,by rw [←H1.1];exact HB.1⟩))
 ·have q1:=z7 h1
  have D1:=zz q1
  clear h1
  cases b0 with
  |false=>
   go_enter Try.func68,Try.ntmps68
   go_wp2_with ((with_reducible refine (HI.1 _).mono ?_);rintro e w2 ⟨rfl,rfl⟩)
   all_goals (go_ret;exact ⟨zq19,by rw [←H1.1];exact HB.1⟩)
  |true=>
   cases b2 with
   |true=>
    go_enter Try.func68,Try.ntmps68
    go_wp2_with (first|((with_reducible refine (HI.1 _).mono ?_);rintro e w2 ⟨rfl,rfl⟩)|((with_reducible refine (HS.1 _ (by rw [←H1.1];exact HB.1)).mono ?_);rintro e w2 ⟨rfl,hb⟩;rw [←H1.1] at hb;have HB2:=zz hb;clear hb))
    all_goals (go_ret;exact ⟨by rw [D1.1];rfl,zf HB.1 HB2.1⟩)
   |false=>
    cases b3<;>(
     go_enter Try.func68,Try.ntmps68
     go_wp2_with (first|((with_reducible refine (HI.1 _).mono ?_);rintro e w2 ⟨rfl,rfl⟩)|((with_reducible refine (HS.1 _ (by rw [←H1.1];exact HB.1)).mono ?_);rintro e w2 ⟨rfl,hb⟩;rw [←H1.1] at hb;have HB2:=zz hb;obtain ⟨g0,g1⟩:=HC.1 _ hb;clear hb)|((with_reducible refine (HP.1 _ HB2.1).mono ?_);rintro e w3 ⟨rfl,hb⟩;have HB3:=zz hb;clear hb))
     all_goals (go_ret;exact ⟨by rw [D1.1];rfl,zf (zf HB.1 HB2.1) HB3.1⟩))
end Go.Proofs.Ytonhdiemjgdcnaa.PFnExactGivePage
namespace Go.Proofs.Ytonhdiemjgdcnaa.PFnExactGivePage
open Go.RowKit Go.Proofs.YtonhdiemjgdcnaaW.PrintWords Go.Proofs.YtonhdiemjgdcnaaW.PrintLast Go.Proofs.YtonhdiemjgdcnaaW.PrintMore
attribute [local go_sem] zV zU zia zha zP zN zS zT
theorem inS_f (a lo hi:Int):spec_l01In.f a lo hi=some (inB a lo hi):=by
 unfold spec_l01In.f inB
 by_cases h:a≥lo
 ·rw [if_pos h,decide_eq_true (show lo≤a from h)];rfl
 ·rw [if_neg h,decide_eq_false (show ¬lo≤a from h)];rfl
theorem le200 (n:Nat):decide ((n:Int)≤200)= !decide ((n:Int)>200):=by
 by_cases h:(n:Int)>200
 ·rw [decide_eq_true h,decide_eq_false zq3];rfl
 ·rw [decide_eq_false h,decide_eq_true zq3];rfl
theorem ds1 (p:List ByteArray) (q:List S135) (hp:p.length≤2000000) (hq:q.length≤2000000):∀n i:Nat,i+n=q.length→Ev (fun k=>spec_DiskOk.l1 k (i:Int) p q) (!(q.drop i).any (badP p.length)&&(inB (p.length:Int) 4 40&& !decide ((q.length:Int)>200))):=by
 have w1:wrap64 ((p.length:Int)-1)=(p.length:Int)-1:=zB zq3 zq3
 intro n
 induction n with
 |zero=>
  intro i hi
  rw [List.drop_eq_nil_of_le (show q.length≤i by omega)]
  refine Ev.step (f:=fun _=>some (!([]:List S135).any (badP p.length)&&(inB (p.length:Int) 4 40&& !decide ((q.length:Int)>200)))) (fun k=> ?_) (Ev.now _)
  rw [spec_DiskOk.l1,if_neg zq3,inS_f,Option.bind_some,le200]
  cases inB (p.length:Int) 4 40<;>rfl
 |succ n ih=>
  intro i hi
  have hlt:i<q.length:=zq3
  have w2:wrap64 ((i:Int)+1)=((i+1:Nat):Int):=by rw [zB zq3 zq3];omega
  rw [List.drop_eq_getElem_cons hlt,List.any_cons]
  by_cases hb:inB q[i].f0 0 ((p.length:Int)-1)=true
  ·by_cases hs:(q[i].f1.size:Int)>240
   ·have e:badP p.length q[i]=true:=by unfold badP bigT;rw [decide_eq_true hs,Bool.or_true]
    rw [e]
    refine Ev.step (f:=fun _=>some false) (fun k=> ?_) (Ev.now _)
    rw [spec_DiskOk.l1,if_pos zq3,if_pos zq3,rd135 _ _ hlt,w1,inS_f,Option.bind_some,if_pos hb,if_pos hs]
   ·have e:badP p.length q[i]=false:=by unfold badP bigT;rw [decide_eq_false hs,hb];rfl
    rw [e,Bool.false_or]
    refine Ev.step (f:=fun k=>spec_DiskOk.l1 k ((i+1:Nat):Int) p q) (fun k=> ?_) (ih (i+1) zq3)
    rw [spec_DiskOk.l1,if_pos zq3,if_pos zq3,rd135 _ _ hlt,w1,inS_f,Option.bind_some,if_pos hb,if_neg hs,w2]
  ·have hb2:inB q[i].f0 0 ((p.length:Int)-1)=false:=by cases h:inB q[i].f0 0 ((p.length:Int)-1)<;>simp_all
   have e:badP p.length q[i]=true:=by unfold badP;rw [hb2];rfl
   rw [e]
   refine Ev.step (f:=fun _=>some false) (fun k=> ?_) (Ev.now _)
   rw [spec_DiskOk.l1,if_pos zq3,if_pos zq3,rd135 _ _ hlt,w1,inS_f,Option.bind_some,if_neg hb]
theorem ds0 (p:List ByteArray) (q:List S135) (hp:p.length≤2000000) (hq:q.length≤2000000):∀n i:Nat,i+n=p.length→Ev (fun k=>spec_DiskOk.l0 k (i:Int) p q) (!(p.drop i).any bigT&&(!q.any (badP p.length)&&(inB (p.length:Int) 4 40&& !decide ((q.length:Int)>200)))):=by
 intro n
 induction n with
 |zero=>
  intro i hi
  rw [List.drop_eq_nil_of_le (show p.length≤i by omega)]
  refine Ev.step (f:=fun k=>spec_DiskOk.l1 k ((0:Nat):Int) p q) (fun k=> ?_) ?_
  ·rw [spec_DiskOk.l0,if_neg zq3]
   rfl
  ·exact ds1 p q hp hq q.length 0 zq3
 |succ n ih=>
  intro i hi
  have hlt:i<p.length:=zq3
  have w2:wrap64 ((i:Int)+1)=((i+1:Nat):Int):=by rw [zB zq3 zq3];omega
  rw [List.drop_eq_getElem_cons hlt,List.any_cons]
  by_cases hs:(p[i].size:Int)>240
  ·have e:bigT p[i]=true:=by unfold bigT;rw [decide_eq_true hs]
   rw [e]
   refine Ev.step (f:=fun _=>some false) (fun k=> ?_) (Ev.now _)
   rw [spec_DiskOk.l0,if_pos zq3,if_pos zq3,rdOf_nat _ _ _ hlt,if_pos hs]
  ·have e:bigT p[i]=false:=by unfold bigT;rw [decide_eq_false hs]
   rw [e,Bool.false_or]
   refine Ev.step (f:=fun k=>spec_DiskOk.l0 k ((i+1:Nat):Int) p q) (fun k=> ?_) (ih (i+1) zq3)
   rw [spec_DiskOk.l0,if_pos zq3,if_pos zq3,rdOf_nat _ _ _ hlt,if_neg hs,w2]
theorem diskOkS_ev (p:List ByteArray) (q:List S135) (hp:p.length≤2000000) (hq:q.length≤2000000):Ev (fun k=>spec_DiskOk.f k p q) (DOk p q):=by
 have h:=ds0 p q hp hq p.length 0 zq3
 have e:(!(p.drop 0).any bigT&&(!q.any (badP p.length)&&(inB (p.length:Int) 4 40&& !decide ((q.length:Int)>200))))=DOk p q:=by
  rw [List.drop_zero]
  unfold DOk
  generalize p.any bigT=a1
  generalize q.any (badP p.length)=a2
  generalize inB (p.length:Int) 4 40=a3
  generalize decide ((q.length:Int)>200)=a4
  cases a1<;>cases a2<;>cases a3<;>cases a4<;>rfl
 rw [e] at h
 exact h
end Go.Proofs.Ytonhdiemjgdcnaa.PFnExactGivePage
namespace Go.Proofs.Ytonhdiemjgdcnaa.Opened
open Go.RowKit Go.Deep Go.WideShapes Go.Proofs.YtonhdiemjgdcnaaW.PrintWords
def Opens {α:Type} (P:Program) (t:TypeId) (d:Kd α) (ok:α→Prop):Prop:=
 ∀(H:Type) (enc:TypeId×Value→H) (w:World) (base:Nat) (spare:Nat→Bool) (held:Bool) (fuel:Nat) (cs:List Value) (x:DataW H×List MemPlace),
  DataW.trod enc P w base spare held fuel t cs=some x→∃y:α,d.K w y cs∧ok y
variable {P:Program}
theorem opens_int {t:TypeId} {k:IntKind} (hu:P.underlying t=some (.int k)):Opens P t (Kd.int k) (fun _=>True):=by
 intro H enc w base spare held fuel cs x h
 obtain ⟨n,rfl,_,_⟩:=DataW.trod_int hu h
 exact ⟨n,rfl,trivial⟩
theorem opens_string {t:TypeId} (hu:P.underlying t=some .string):Opens P t Kd.string (fun s=>s.size≤9223372036854775807):=by
 intro H enc w base spare held fuel cs x h
 obtain ⟨n,rfl,_,hs⟩:=DataW.trod_string hu h
 exact ⟨n,rfl,by unfold maxLen at hs;omega⟩
theorem list_of {α:Type} (n:Nat) (Q:Nat→α→Prop) (h:∀i,i<n→∃y,Q i y):∃ys:List α,ys.length=n∧∀j p,ys[j]?=some p→Q j p:=by
 induction n with
 |zero=>exact ⟨[],rfl,fun j p h=>by simp at h⟩
 |succ n ih=>
  obtain ⟨ys,hl,hy⟩:=ih (fun i hi=>h i zq3)
  obtain ⟨y,hq⟩:=h n zq3
  refine ⟨ys++[y],by simp [hl],fun j p hj=> ?_⟩
  rcases Nat.lt_or_ge j n with hlt|hge
  ·rw [List.getElem?_append_left zq3] at hj
   exact hy j p hj
  ·have hj':j=n:=by
    have:=(List.getElem?_eq_some_iff.1 hj).1
    rw [List.length_append,List.length_singleton] at this
    omega
   subst hj'
   have:y=p:=by rw [List.getElem?_append_right zq3,hl,Nat.sub_self] at hj;simpa using hj
   subst this
   exact hq
theorem opens_slice {t e:TypeId} {α:Type} {d:Kd α} {ok:α→Prop} (hu:P.underlying t=some (.slice e)) (he:Opens P e d ok) (hc:P.cellsOf e=d.sz) (n:Nat):Opens P t (Kd.slice n d) (fun ys=>∀y∈ys,ok y):=by
 intro H enc w base spare held fuel cs x h
 rcases open_slice hu h with ⟨rfl,_⟩|⟨a,len,cap,m,n',D,Pl,rfl,_,hl,hm,hmm,_,hel⟩
 ·exact ⟨[],⟨none,0,rfl,z2a _,rfl,by simp,fun h=>by simp at h⟩,fun y hy=>by cases hy⟩
 ·have hlm:len≤m:=by
   rw [hmm]
   split<;>omega
  obtain ⟨ys,hy,hq⟩:=list_of len (fun i y=>ok y∧∃cs',w.cells? base (a.add (i*P.cellsOf e)) (P.cellsOf e)=some cs'∧d.K w y cs') (fun i hi=>by
   obtain ⟨cs',h1,h2⟩:=hel i zq3
   obtain ⟨y,hy,hok⟩:=he _ enc w base spare held n' cs' _ h2
   exact ⟨y,hok,cs',h1,hy⟩)
  subst hy
  refine ⟨ys,⟨some a,cap,rfl,hl,rfl,by unfold maxLen at hm;omega,fun _=>⟨a,rfl,fun j p hj=> ?_⟩⟩,fun y hy=> ?_⟩
  ·obtain ⟨_,cs',h1,h2⟩:=hq j p hj
   obtain ⟨_,h3,h4⟩:=World.cells?_some h1
   refine ⟨cs',h3.trans hc,h2,fun i u hi=> ?_⟩
   have hi':i<P.cellsOf e:=by
    have:=(List.getElem?_eq_some_iff.1 hi).1
    omega
   have:=h4 i hi'
   rw [Addr.add_add,hc] at this
   rw [this]
   exact hi
  ·obtain ⟨j,hj,rfl⟩:=List.getElem_of_mem hy
   exact (hq j _ (List.getElem?_eq_getElem hj)).1
def Parts {α:Type} (P:Program) (fs:List Field) (o:Nat) (d:Kd α) (ok:α→Prop):Prop:=
 ∀(H:Type) (enc:TypeId×Value→H) (w:World) (base:Nat) (spare:Nat→Bool) (held:Bool) (fuel:Nat) (cs:List Value),cs.length=o+d.sz→
  (∀f∈fs,∃x:DataW H×List MemPlace,DataW.trod enc P w base spare held fuel f.type ((cs.drop f.offset).take (P.cellsOf f.type))=some x)→∃y:α,d.K w y (cs.drop o)∧ok y
theorem parts_last {α:Type} {d:Kd α} {ok:α→Prop} {f:Field} {o:Nat} (hf:Opens P f.type d ok) (ho:f.offset=o) (hc:P.cellsOf f.type=d.sz):Parts P [f] o d ok:=by
 intro H enc w base spare held fuel cs hl h
 obtain ⟨x,hx⟩:=h f zq29
 rw [ho,hc,List.take_of_length_le (by rw [List.length_drop];omega)] at hx
 exact hf _ enc w base spare held fuel _ x hx
theorem parts_cons {α β:Type} {d:Kd α} {ds:Kd β} {ok:α→Prop} {oks:β→Prop} {f:Field} {fs:List Field} {o o':Nat} (hf:Opens P f.type d ok) (ho:f.offset=o) (hc:P.cellsOf f.type=d.sz) (hs:Parts P fs o' ds oks) (ho':o'=o+d.sz):Parts P (f::fs) o (Kd.pair d ds) (fun p=>ok p.1∧oks p.2):=by
 intro H enc w base spare held fuel cs hl h
 subst ho'
 have hl':cs.length=o+(d.sz+ds.sz):=hl
 obtain ⟨x,hx⟩:=h f zq29
 rw [ho,hc] at hx
 obtain ⟨y,hy,oy⟩:=hf _ enc w base spare held fuel _ x hx
 obtain ⟨z,hz,oz⟩:=hs _ enc w base spare held fuel cs zq3 (fun g hg=>h g (by simp [hg]))
 refine ⟨(y,z),⟨(cs.drop o).take d.sz,cs.drop (o+d.sz),?_,hy,hz⟩,oy,oz⟩
 rw [←List.drop_drop]
 exact (List.take_append_drop _ _).symm
theorem opens_struct {t:TypeId} {fs:Array Field} {α β:Type} {d:Kd α} {ok:α→Prop} (hu:P.underlying t=some (.struct fs)) (hp:Parts P fs.toList 0 d ok) (hc:P.cellsOf t=d.sz) (f:β→α) (g:α→β) (hg:∀y,f (g y)=y):Opens P t (Kd.iso d f) (fun y=>ok (f y)):=by
 intro H enc w base spare held fuel cs x h
 obtain ⟨xs,n,_,_,hl,hlen,hi⟩:=DataW.trod_struct hu h
 obtain ⟨y,hy,oy⟩:=hp _ enc w base spare held n cs zq3 (fun fl hfl=>by
  obtain ⟨i,hlt,he⟩:=List.getElem_of_mem hfl
  have hlt':i<fs.size:=by simpa using hlt
  have:=hi i fl (by rw [Array.getElem?_eq_getElem hlt'];simpa using he)
  rw [List.getElem?_eq_getElem zq3] at this
  exact ⟨_,this⟩)
 refine ⟨g y,?_,?_⟩
 ·show d.K w (f (g y)) cs
  rw [hg]
  simpa using hy
 ·show ok (f (g y))
  rw [hg]
  exact oy
theorem arg_struct {t:TypeId} {fs:Array Field} {α:Type} {d:Kd α} {ok:α→Prop} (hu:P.underlying t=some (.struct fs)) (ho:Opens P t d ok) {H:Type} {enc:TypeId×Value→H} {w:World} {base b0:Nat} {spare:Nat→Bool} {held:Bool} {r:Reach} {v:Value} {x:DataW H} {p:List MemPlace}
  (hv:Value.okWide P w r b0 t v) (h:DataW.Trod enc P w base spare held t v x p):∃(y:α) (cs:List Value),v= .agg cs.toArray∧d.K w y cs∧ok y:=by
 obtain ⟨cs,rfl,_⟩:=okWide_struct hu hv
 obtain ⟨fuel,hf⟩:=h
 obtain ⟨y,hy,oy⟩:=ho _ enc w base spare held fuel _ _ hf
 exact ⟨y,cs.toList,by simp,by simpa [Value.cells] using hy,oy⟩
end Go.Proofs.Ytonhdiemjgdcnaa.Opened
namespace Go.Proofs.Ytonhdiemjgdcnaa.PFnExactGivePage
open Go.ChangeShapes Go.WideShapes Go.ChangeAt Go.RowKit
open Go.ChangeMaps (open_string shut_string)
open Go.Proofs.Ytonhdiemjgdcnaa.Opened Go.Proofs.YtonhdiemjgdcnaaW.PrintWords
def dDisk:Kd (List ByteArray×List S140):=Kd.pair (Kd.slice 9 Kd.string) (Kd.slice 140 k140)
def okDisk (p:List ByteArray×List S140):Prop:=(∀s∈p.1,s.size≤9223372036854775807)∧∀s∈p.2,s.f1.size≤9223372036854775807
theorem opens140:Opens Try.prog 140 k140 (fun s=>s.f1.size≤9223372036854775807):=by
 have h:=opens_struct (P:=Try.prog) Try.underlying140 (parts_cons (opens_int Try.underlying3) rfl zq8 (parts_last (opens_string Try.underlying9) rfl zq8) rfl) zq8 (fun x:S140=>(x.f0,x.f1)) (fun p=>⟨p.1,p.2⟩) (fun _=>rfl)
 intro H enc w base spare held fuel cs x hx
 obtain ⟨y,h1,h2⟩:=h _ enc w base spare held fuel cs x hx
 exact ⟨y,h1,h2.2⟩
theorem opens25:Opens Try.prog 25 (Kd.iso dDisk id) okDisk:=
 opens_struct (P:=Try.prog) Try.underlying25 (parts_cons (opens_slice Try.underlying22 (opens_string Try.underlying9) zq8 9) rfl zq8 (parts_last (opens_slice Try.underlying23 opens140 zq8 140) rfl zq8) rfl) zq8 id id (fun _=>rfl)
theorem KD_len {w:World} {x:List ByteArray×List S140} {cs:List Value} (h:kDiskL.K w x cs) (ho:okDisk x):INd x.1 x.2:=by
 obtain ⟨p,q⟩:=x
 obtain ⟨A0,c0,A1,c1,rfl,m0,r0,m1,r1⟩:=kDiskL_open h
 exact ⟨ho.1,r0.2.1,ho.2,r1.2.1⟩
end Go.Proofs.Ytonhdiemjgdcnaa.PFnExactGivePage
namespace Go.Proofs.YtonhdiemjgdcnaaW.PrintWords
open Go.RowKit
theorem ReadsInt.at_ {w:World} {k:IntKind} {A:Option Addr} {n:Nat} {xs:List Int} (h:ReadsInt w k A n xs) (i:Int) (h0:0≤i) (h1:i<n):∃ad,A=some ad∧w.cell? (ad.add i.toNat)=some (.int k (rd xs i)):=by
 obtain ⟨ad,e,hc⟩:=h.2.2 zq3
 exact ⟨ad,e,hc _ zq3⟩
theorem own_setCell {w:World} {base:Nat} {e:TypeId} {size n:Nat} {v:Value} {xs:List Value} (h:w.ownsRow base e size v n xs) {p:Addr} (hne:some p.block≠v.ownBlock) (u:Value):(w.setCell p u).ownsRow base e size v n xs:=by
 obtain ⟨h1,h2⟩:=h
 refine ⟨h1,?_⟩
 rcases h2 with h2|⟨g,cap,cur,rfl,hg,hh,r⟩
 ·exact .inl h2
 ·exact .inr ⟨g,cap,cur,rfl,hg,by rw [Below.heap_setCell _ _ _ _ (fun e=>hne (by rw [e];rfl))];exact hh,r⟩
theorem KeepBut.refl (w:World) (g:Nat) (row:Option Nat):KeepBut w w g row:=⟨z2a _,fun _ _ _ _=>rfl⟩
theorem KeepBut.of_grown {w w1:World} {row:Option Nat} (h:w.grownBy w1 row) (g:Nat):KeepBut w w1 g row:=⟨h.size,fun i hi _ hr=>h.block i hi hr⟩
theorem KeepBut.of_below {w w1:World} (h:Below w.heap.size w w1) (g:Nat) (row:Option Nat):KeepBut w w1 g row:=⟨h.size,fun i hi _ _=>h.block i hi⟩
theorem KeepBut.set_ {w w1:World} {g:Nat} {row:Option Nat} (h:KeepBut w w1 g row) (j:Nat) (u:Value):KeepBut w (w1.setCell ⟨g,j,none⟩ u) g row:=
 ⟨by simpa [World.setCell] using h.1,fun i hi hg hr=>(Below.heap_setCell w1 ⟨g,j,none⟩ u i hg).trans (h.2 i hi hg hr)⟩
theorem KeepBut.own {w w1:World} {g:Nat} {row:Option Nat} {base:Nat} {e:TypeId} {size n:Nat} {v:Value} {xs:List Value} (h:KeepBut w w1 g row) (ho:w.ownsRow base e size v n xs) (hg:v.ownBlock≠some g) (hr:v.ownBlock=none∨v.ownBlock≠row):w1.ownsRow base e size v n xs:=by
 obtain ⟨h1,h2⟩:=ho
 refine ⟨h1,?_⟩
 rcases h2 with h2|⟨b,cap,cur,rfl,hb,hh,r⟩
 ·exact .inl h2
 ·refine .inr ⟨b,cap,cur,rfl,hb,h.blk hh ?_ ?_,r⟩
  ·intro e
   exact hg (by rw [←e];rfl)
  ·rcases hr with hr|hr
   ·simp [Value.ownBlock] at hr
   ·exact hr
section
variable {α:Type} {R R':α→List Value→Prop} {e:TypeId} {size:Nat} {w w1:World} {base:Nat} {v:Value} {ps:List α}
theorem OwnRow.set_ (h:OwnRow R e size w base v ps) {g:Nat} {t:TypeId} {cells:Array Value} (hb:w.heap[g]?=some (.cells cells t (0,0))) (ht:e≠t) (j:Nat) (u:Value):OwnRow R e size (w.setCell ⟨g,j,none⟩ u) base v ps:=by
 obtain ⟨inner,ho,hr⟩:=h
 exact ⟨inner,own_setCell ho (own_ne ho hb ht) u,hr⟩
end
namespace Kd
section
variable {α:Type} {d:Kd α} {e:Nat} {w w1:World} {base:Nat} {ok ok':Nat→Prop} {v:Value} {xs:List α}
theorem R_keep (h:d.R e w base ok v xs) {g:Nat} (hk:KeepBut w w1 g none) (hok:∀k,ok k→k≠g):d.R e w1 base ok v xs:=R_step h (fun k ho hlt=>hk.2 k hlt (hok k ho) zq29)
end
end Kd
namespace Kd
end Kd
namespace Kd
end Kd
namespace Kd
end Kd
namespace Kd
end Kd
namespace Kd
end Kd
namespace Kd
end Kd
namespace Kd
end Kd
namespace Kd
end Kd
namespace Kd
end Kd
theorem keep_drewN {w W:World} {g:Nat} {row:Option Nat} (h:KeepBut w W g row) (m:Nat):KeepBut w (W.drewN m) g row:=h
theorem keep_alloc {w W:World} {g:Nat} (h:KeepBut w W g none) (o:Obj):KeepBut w (W.alloc o) g none:=h.trans (KeepBut.of_grown (World.grownBy_alloc W o none) g) (.inl rfl)
theorem keep_drew {w W:World} {g:Nat} {row:Option Nat} (h:KeepBut w W g row):KeepBut w W.drew g row:=h
namespace Kd
end Kd
namespace Kd
end Kd
section
variable {P:Program} {ops:Array Oper} {o:Oper} {a:Act} {Q:Exit→Act→World→Prop} {Kc:Act→World→Prop}
namespace Kd
variable {α:Type}
end Kd
end
namespace Kd
end Kd
end Go.Proofs.YtonhdiemjgdcnaaW.PrintWords
namespace Go.Proofs.YtonhdiemjgdcnaaW.PrintLast
end Go.Proofs.YtonhdiemjgdcnaaW.PrintLast
namespace Go.Proofs.YtonhdiemjgdcnaaW.PrintLast
open Go.Proofs.YtonhdiemjgdcnaaW.PrintWords (Z0)
end Go.Proofs.YtonhdiemjgdcnaaW.PrintLast
namespace Go.Proofs.YtonhdiemjgdcnaaW.PrintLast
end Go.Proofs.YtonhdiemjgdcnaaW.PrintLast
namespace Go.Proofs.YtonhdiemjgdcnaaW.PrintWords
open Go.RowKit
namespace Kd
section
variable {α β:Type} {d:Kd α} {d':Kd β} {e e':Nat} {w w1 W:World} {base b:Nat} {ok ok' okv oku:Nat→Prop} {u v:Value} {xs:List α} {ys:List β}
theorem S_keep (h:S d e w base ok v xs) {g:Nat} (hk:KeepBut w w1 g none) (hok:∀k,ok k→k≠g):S d e w1 base ok v xs:=S_step h (fun k ho hlt=>hk.2 k hlt (hok k ho) zq29)
end
end Kd
end Go.Proofs.YtonhdiemjgdcnaaW.PrintWords
namespace Go.Proofs.YtonhdiemjgdcnaaW.PrintWords
open Go.RowKit
namespace Kd
end Kd
end Go.Proofs.YtonhdiemjgdcnaaW.PrintWords
namespace Go.Proofs.YtonhdiemjgdcnaaW.PrintWords
open Go.RowKit
namespace Kd
end Kd
end Go.Proofs.YtonhdiemjgdcnaaW.PrintWords
namespace Go.Proofs.YtonhdiemjgdcnaaW.PrintWords
open Go.RowKit
namespace Kd
end Kd
end Go.Proofs.YtonhdiemjgdcnaaW.PrintWords
namespace Go.Proofs.YtonhdiemjgdcnaaW.PrintWords
open Go.RowKit
namespace Kd
end Kd
end Go.Proofs.YtonhdiemjgdcnaaW.PrintWords
namespace Go.Proofs.YtonhdiemjgdcnaaW.PrintWords
open Go.RowKit
namespace Foot
variable {P Q:World→Prop} {W W1:World} {ok ok':Nat→Prop}
end Foot
namespace Kd
end Kd
end Go.Proofs.YtonhdiemjgdcnaaW.PrintWords
namespace Go.Proofs.YtonhdiemjgdcnaaW.PrintWords
open Go.RowKit
namespace Kd
end Kd
end Go.Proofs.YtonhdiemjgdcnaaW.PrintWords
namespace Go.Proofs.YtonhdiemjgdcnaaW.PrintWords
open Go.RowKit
namespace Kd
end Kd
end Go.Proofs.YtonhdiemjgdcnaaW.PrintWords
namespace Go.Proofs.YtonhdiemjgdcnaaW.PrintWords
open Go.RowKit
namespace Kd
end Kd
end Go.Proofs.YtonhdiemjgdcnaaW.PrintWords
namespace Go.Proofs.YtonhdiemjgdcnaaW.PrintWords
open Go.RowKit
end Go.Proofs.YtonhdiemjgdcnaaW.PrintWords
namespace Go.Proofs.YtonhdiemjgdcnaaW.PrintLast
def up (b:Nat→Bool) (i:Nat):Nat→Bool:=fun j=>if j=i then true else b j
end Go.Proofs.YtonhdiemjgdcnaaW.PrintLast
namespace Go.Proofs.YtonhdiemjgdcnaaW.PrintWords
open Go.RowKit
end Go.Proofs.YtonhdiemjgdcnaaW.PrintWords
namespace Go.Proofs.YtonhdiemjgdcnaaW.PrintLast
end Go.Proofs.YtonhdiemjgdcnaaW.PrintLast
namespace Go.Proofs.YtonhdiemjgdcnaaW.PrintWords
open Go.RowKit
end Go.Proofs.YtonhdiemjgdcnaaW.PrintWords
namespace Go.Proofs.YtonhdiemjgdcnaaW.PrintWords
open Go.RowKit
namespace Kd
end Kd
end Go.Proofs.YtonhdiemjgdcnaaW.PrintWords
namespace Go.Proofs.YtonhdiemjgdcnaaW.PrintMore
open Go.RowKit Go.Proofs.YtonhdiemjgdcnaaW.PrintWords
namespace Kd
open Go.Proofs.YtonhdiemjgdcnaaW.PrintWords.Kd
end Kd
namespace Kd
open Go.Proofs.YtonhdiemjgdcnaaW.PrintWords.Kd
end Kd
end Go.Proofs.YtonhdiemjgdcnaaW.PrintMore
namespace Go.Proofs.YtonhdiemjgdcnaaW.PrintWords
open Go.RowKit
theorem shl_small {k:IntKind} {x y j:Int} (h:shl k x y=j) (hy:y≤k.bits):k.wrap (x*2^y.toNat)=j:=by rw [←h];unfold shl;rw [Nat.min_eq_left zq3]
namespace Kd
end Kd
end Go.Proofs.YtonhdiemjgdcnaaW.PrintWords
namespace Go.Proofs.YtonhdiemjgdcnaaW.PrintWords
open Go.RowKit
namespace Kd
end Kd
end Go.Proofs.YtonhdiemjgdcnaaW.PrintWords
namespace Go.Proofs.Ytonhdiemjgdcnaa.Own
open Go.RowKit Go.Proofs.YtonhdiemjgdcnaaW.PrintWords Go.Proofs.YtonhdiemjgdcnaaW.PrintLast Go.Proofs.YtonhdiemjgdcnaaW.PrintMore
end Go.Proofs.Ytonhdiemjgdcnaa.Own
