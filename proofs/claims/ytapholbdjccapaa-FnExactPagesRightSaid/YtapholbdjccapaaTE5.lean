import Derived.Test.YtapholbdjccapaaTE4
import Derived.Lib.Bytes
import Derived.Lib.Strings
import Derived.Laws.Bits128
import Derived.Shelf.Abstract
import Derived.Outline
set_option maxHeartbeats 64000000
set_option maxRecDepth 100000
set_option linter.unusedVariables false
set_option linter.unusedSimpArgs false
namespace Go.Proofs.Ytapholbdjccapaa.PFnExactTreeOk
open Go.RowKit Go.Proofs.YtapholbdjccapaaW.PrintWords Go.Proofs.YtapholbdjccapaaW.PrintLast Go.Proofs.YtapholbdjccapaaW.PrintMore
attribute [local go_sem] max2_int min2_int max_two min_two max_three min_three max_four min_four
mutual
def impl_ReadVar.l0 : Nat → ByteArray → Int → Int → Int → Option (Int × Int × Bool)
 | 0, _, _, _, _ => none
 | k + 1, x0, x1, x7, x8 => if x8 < 5 then (impl_ReadVar.j1 k x0 x1 x7 x8 (decide ((wrap64 (x1 + x8)) < (x0.size : Int)))) else (impl_ReadVar.j1 k x0 x1 x7 x8 false)
def impl_ReadVar.j1 : Nat → ByteArray → Int → Int → Int → Bool → Option (Int × Int × Bool)
 | 0, _, _, _, _, _ => none
 | k + 1, x0, x1, x7, x8, x24 => if x24 = true then (if 0 ≤ (wrap64 (x1 + x8)) then (if (wrap64 (x1 + x8)) < (x0.size : Int) then (if 0 ≤ (wrap64 (7 * x8)) then (if (wrap64 (bt x0 (wrap64 (x1 + x8)))) > 127 then (impl_ReadVar.l0 k x0 x1 (Go.bits .or .i64 x7 (shl .i64 (Go.bits .and .i64 (wrap64 (bt x0 (wrap64 (x1 + x8)))) 127) (wrap64 (7 * x8)))) (wrap64 (x8 + 1))) else (if (wrap64 (bt x0 (wrap64 (x1 + x8)))) = 0 then (if x8 > 0 then (some (0, 0, false)) else (if (Go.bits .or .i64 x7 (shl .i64 (Go.bits .and .i64 (wrap64 (bt x0 (wrap64 (x1 + x8)))) 127) (wrap64 (7 * x8)))) > 1000000000 then (some (0, 0, false)) else (some (Go.bits .or .i64 x7 (shl .i64 (Go.bits .and .i64 (wrap64 (bt x0 (wrap64 (x1 + x8)))) 127) (wrap64 (7 * x8))), wrap64 ((wrap64 (x1 + x8)) + 1), true)))) else (if (Go.bits .or .i64 x7 (shl .i64 (Go.bits .and .i64 (wrap64 (bt x0 (wrap64 (x1 + x8)))) 127) (wrap64 (7 * x8)))) > 1000000000 then (some (0, 0, false)) else (some (Go.bits .or .i64 x7 (shl .i64 (Go.bits .and .i64 (wrap64 (bt x0 (wrap64 (x1 + x8)))) 127) (wrap64 (7 * x8))), wrap64 ((wrap64 (x1 + x8)) + 1), true))))) else (none)) else (none)) else (none)) else (some (0, 0, false))
end
def impl_ReadVar.f (k : Nat) (a0 : ByteArray) (a1 : Int) : Option (Int × Int × Bool) := (impl_in.f a1 0 (a0.size : Int)).bind fun t216 => (if t216 = true then (impl_ReadVar.l0 k a0 a1 0 0) else (some (0, 0, false)))
theorem impl_ReadVar.mono_l : ∀ k, (∀ y0 y1 y2 y3, LeO (impl_ReadVar.l0 k y0 y1 y2 y3) (impl_ReadVar.l0 (k + 1) y0 y1 y2 y3)) ∧ (∀ y0 y1 y2 y3 y4, LeO (impl_ReadVar.j1 k y0 y1 y2 y3 y4) (impl_ReadVar.j1 (k + 1) y0 y1 y2 y3 y4))
 | 0 => ⟨fun _ _ _ _ r h => by simp [impl_ReadVar.l0] at h, fun _ _ _ _ _ r h => by simp [impl_ReadVar.j1] at h⟩
 | k + 1 => by
  obtain ⟨ih0, ih1⟩ := impl_ReadVar.mono_l k
  refine ⟨?_, ?_⟩
  ·intro y0 y1 y2 y3
   unfold impl_ReadVar.l0
   repeat' first
   | (with_reducible exact ih0 _ _ _ _)
   | (with_reducible exact ih1 _ _ _ _ _)
   | (with_reducible exact LeO.refl _)
   | (with_reducible exact LeO.none _)
   | (with_reducible refine LeO.ite ?_ ?_)
   | (with_reducible refine LeO.bind ?_ (fun _ => ?_))
   | exact ih0 _ _ _ _
   | exact ih1 _ _ _ _ _
  ·intro y0 y1 y2 y3 y4
   unfold impl_ReadVar.j1
   repeat' first
   | (with_reducible exact ih0 _ _ _ _)
   | (with_reducible exact ih1 _ _ _ _ _)
   | (with_reducible exact LeO.refl _)
   | (with_reducible exact LeO.none _)
   | (with_reducible refine LeO.ite ?_ ?_)
   | (with_reducible refine LeO.bind ?_ (fun _ => ?_))
   | exact ih0 _ _ _ _
   | exact ih1 _ _ _ _ _
theorem impl_ReadVar.mono : ∀ a0 a1 k, LeO (impl_ReadVar.f k a0 a1) (impl_ReadVar.f (k + 1) a0 a1) := by
 intro a0 a1 k
 obtain ⟨ih0, ih1⟩ := impl_ReadVar.mono_l k
 unfold impl_ReadVar.f
 repeat' first
   | (with_reducible exact ih0 _ _ _ _)
   | (with_reducible exact ih1 _ _ _ _ _)
   | (with_reducible exact LeO.refl _)
   | (with_reducible exact LeO.none _)
   | (with_reducible refine LeO.ite ?_ ?_)
   | (with_reducible refine LeO.bind ?_ (fun _ => ?_))
   | exact ih0 _ _ _ _
   | exact ih1 _ _ _ _ _
theorem impl_ReadVar.calls (k : Nat) (a0 : ByteArray) (a1 : Int) (r1 : Int) (r2 : Int) (r3 : Bool) (w : World) (h : impl_ReadVar.f k a0 a1 = some (r1, r2, r3)) :
  Calls Try.prog 126 #[.string a0, .int .i64 a1] w fun e w' => e = .returned (.tuple #[.int .i64 r1, .int .i64 r2, .bool r3]) ∧ Drawn0 w w' := by
 have H : ((impl_in.f a1 0 (a0.size : Int)).bind fun t216 => (if t216 = true then (impl_ReadVar.l0 k a0 a1 0 0) else (some (0, 0, false)))) = some (r1, r2, r3) := h
 clear h
 replace H := Option.bind_eq_some_iff.mp H
 obtain ⟨t216, A30, H⟩ := H
 replace H : (if t216 = true then (impl_ReadVar.l0 k a0 a1 0 0) else (some (0, 0, false))) = some (r1, r2, r3) := H
 have A3 := Aside0.mk A30
 clear A30
 by_cases c4 : t216 = true
 ·subst c4
  have H1 : (impl_ReadVar.l0 k a0 a1 0 0) = some (r1, r2, r3) := by rw [if_pos rfl] at H; exact H
  clear H
  have H := H1
  clear H1
  have H' := Aside0.mk H
  clear H
  go_enter Try.func126, Try.ntmps126
  go_wp2_with (first | ((with_reducible refine gate_callee (f := 73) rfl ?_); refine goesL_ (some 13) rfl rfl Try.func73 (by kernel_rfl) rfl #[.int .i64 a1, .int .i64 0, .int .i64 (a0.size : Int)] rfl (by (try simp only [List.map_toArray, List.map_cons, List.map_nil]); first | done | rfl | (simp only [List.length_drop, List.length_take]; rfl)) ?_; (with_reducible refine (impl_in.calls a1 0 (a0.size : Int) true _ A3.out).mono ?_); rintro e w' ⟨rfl, ⟨nd, rfl⟩⟩; refine ⟨_, rfl, ?_⟩))
  go_loopg [7, 8] k (fun kq v7 v8 w' => ∃ (x7_1 : Int) (x8_1 : Int), v7 = .int .i64 x7_1 ∧ v8 = .int .i64 x8_1 ∧ Aside0 (impl_ReadVar.l0 kq a0 a1 x7_1 x8_1 = some (r1, r2, r3)) ∧ Aside0 (kq ≤ k) ∧ Drawn0 w w')
  case atStart => exact ⟨(0), (0), (by first | rfl | (simp; done) | (simp [*]; done)), (by first | rfl | (simp; done) | (simp [*]; done)), H', ⟨Nat.le_refl _⟩, by repeat (first | exact Drawn0.refl _ | apply Drawn0.step)⟩
  case round =>
   clear H'
   try clear c4
   obtain ⟨x7_1, x8_1, rfl, rfl, HA, HK1, ⟨m1, rfl⟩⟩ := hrel
   cases gk with
   | zero => exact absurd HA.out (by simp [impl_ReadVar.l0])
   | succ k1 =>
    have H := HA.out
    clear HA
    simp only [impl_ReadVar.l0] at H
    have HC5 := Aside0.mk H
    clear H
    go_upto_region 5 with (fail)
    go_cut [24] (fun v24 wc => ∃ (kq : Nat) (x24_4 : Bool), v24 = .bool x24_4 ∧ Aside0 (impl_ReadVar.j1 kq a0 a1 x7_1 x8_1 x24_4 = some (r1, r2, r3)) ∧ Aside0 (kq ≤ k1) ∧ Drawn0 w wc)
    case first =>
     have H := HC5.out
     clear HC5
     by_cases c6 : x8_1 < 5
     ·rw [if_pos c6] at H
      have c6b0 : decide (x8_1 < 5) = true := decide_eq_true c6
      clear c6
      (first | rw [c6b0] | (simp only [i64_w, i32_w]; rw [c6b0]) | skip)
      have H' := Aside0.mk H
      clear H
      go_wp2
      go_meet
      case rel => exact ⟨_, (decide ((wrap64 (a1 + x8_1)) < (a0.size : Int))), (by first | rfl | (simp; done) | (simp [*]; done)), H', ⟨by have := HK1.out; first | omega | exact Nat.le_refl _⟩, by repeat (first | exact Drawn0.refl _ | apply Drawn0.step)⟩
     ·rw [if_neg c6] at H
      have c6b0 : decide (x8_1 < 5) = false := decide_eq_false c6
      clear c6
      (first | rw [c6b0] | (simp only [i64_w, i32_w]; rw [c6b0]) | skip)
      have H' := Aside0.mk H
      clear H
      go_wp2
      go_meet
      case rel => exact ⟨_, (false), (by first | rfl | (simp; done) | (simp [*]; done)), H', ⟨by have := HK1.out; first | omega | exact Nat.le_refl _⟩, by repeat (first | exact Drawn0.refl _ | apply Drawn0.step)⟩
    case rest =>
     clear HC5
     try clear c4
     try clear c6
     try clear c6b0
     obtain ⟨kq, x24_4, rfl, HA, HJ4, ⟨mc4, rfl⟩⟩ := hcut
     cases kq with
     | zero => exact absurd HA.out (by simp [impl_ReadVar.j1])
     | succ kj4 =>
      have H := HA.out
      clear HA
      simp only [impl_ReadVar.j1] at H
      by_cases c7 : x24_4 = true
      ·subst c7
       have H1 : (if 0 ≤ (wrap64 (a1 + x8_1)) then (if (wrap64 (a1 + x8_1)) < (a0.size : Int) then (if 0 ≤ (wrap64 (7 * x8_1)) then (if (wrap64 (bt a0 (wrap64 (a1 + x8_1)))) > 127 then (impl_ReadVar.l0 kj4 a0 a1 (Go.bits .or .i64 x7_1 (shl .i64 (Go.bits .and .i64 (wrap64 (bt a0 (wrap64 (a1 + x8_1)))) 127) (wrap64 (7 * x8_1)))) (wrap64 (x8_1 + 1))) else (if (wrap64 (bt a0 (wrap64 (a1 + x8_1)))) = 0 then (if x8_1 > 0 then (some (0, 0, false)) else (if (Go.bits .or .i64 x7_1 (shl .i64 (Go.bits .and .i64 (wrap64 (bt a0 (wrap64 (a1 + x8_1)))) 127) (wrap64 (7 * x8_1)))) > 1000000000 then (some (0, 0, false)) else (some (Go.bits .or .i64 x7_1 (shl .i64 (Go.bits .and .i64 (wrap64 (bt a0 (wrap64 (a1 + x8_1)))) 127) (wrap64 (7 * x8_1))), wrap64 ((wrap64 (a1 + x8_1)) + 1), true)))) else (if (Go.bits .or .i64 x7_1 (shl .i64 (Go.bits .and .i64 (wrap64 (bt a0 (wrap64 (a1 + x8_1)))) 127) (wrap64 (7 * x8_1)))) > 1000000000 then (some (0, 0, false)) else (some (Go.bits .or .i64 x7_1 (shl .i64 (Go.bits .and .i64 (wrap64 (bt a0 (wrap64 (a1 + x8_1)))) 127) (wrap64 (7 * x8_1))), wrap64 ((wrap64 (a1 + x8_1)) + 1), true))))) else (none)) else (none)) else (none)) = some (r1, r2, r3) := by rw [if_pos rfl] at H; exact H
       clear H
       have H := H1
       clear H1
       obtain ⟨ji8, hji8⟩ : ∃ j_ : Int, (wrap64 (a1 + x8_1)) = j_ := ⟨_, rfl⟩
       replace H : (if 0 ≤ (ji8) then (if (ji8) < (a0.size : Int) then (if 0 ≤ (wrap64 (7 * x8_1)) then (if (wrap64 (bt a0 (ji8))) > 127 then (impl_ReadVar.l0 kj4 a0 a1 (Go.bits .or .i64 x7_1 (shl .i64 (Go.bits .and .i64 (wrap64 (bt a0 (ji8))) 127) (wrap64 (7 * x8_1)))) (wrap64 (x8_1 + 1))) else (if (wrap64 (bt a0 (ji8))) = 0 then (if x8_1 > 0 then (some (0, 0, false)) else (if (Go.bits .or .i64 x7_1 (shl .i64 (Go.bits .and .i64 (wrap64 (bt a0 (ji8))) 127) (wrap64 (7 * x8_1)))) > 1000000000 then (some (0, 0, false)) else (some (Go.bits .or .i64 x7_1 (shl .i64 (Go.bits .and .i64 (wrap64 (bt a0 (ji8))) 127) (wrap64 (7 * x8_1))), wrap64 ((ji8) + 1), true)))) else (if (Go.bits .or .i64 x7_1 (shl .i64 (Go.bits .and .i64 (wrap64 (bt a0 (ji8))) 127) (wrap64 (7 * x8_1)))) > 1000000000 then (some (0, 0, false)) else (some (Go.bits .or .i64 x7_1 (shl .i64 (Go.bits .and .i64 (wrap64 (bt a0 (ji8))) 127) (wrap64 (7 * x8_1))), wrap64 ((ji8) + 1), true))))) else (none)) else (none)) else (none)) = some (r1, r2, r3) := by first | (rw [hji8] at H; exact H) | (simp only [hji8] at H ⊢; exact H)
       have hji8w : (IntKind.i64.wrap (a1 + x8_1)) = ji8 := (i64_w _).trans hji8
       by_cases c9 : 0 ≤ (ji8)
       ·rw [if_pos c9] at H
        have c9b0 : decide (0 ≤ (ji8)) = true := decide_eq_true c9
        clear c9
        by_cases c10 : (ji8) < (a0.size : Int)
        ·rw [if_pos c10] at H
         have c10b0 : decide ((ji8) < (a0.size : Int)) = true := decide_eq_true c10
         clear c10
         obtain ⟨ji12, hji12⟩ : ∃ j_ : Int, (wrap64 (7 * x8_1)) = j_ := ⟨_, rfl⟩
         replace H : (if 0 ≤ (ji12) then (if (wrap64 (bt a0 (ji8))) > 127 then (impl_ReadVar.l0 kj4 a0 a1 (Go.bits .or .i64 x7_1 (shl .i64 (Go.bits .and .i64 (wrap64 (bt a0 (ji8))) 127) (ji12))) (wrap64 (x8_1 + 1))) else (if (wrap64 (bt a0 (ji8))) = 0 then (if x8_1 > 0 then (some (0, 0, false)) else (if (Go.bits .or .i64 x7_1 (shl .i64 (Go.bits .and .i64 (wrap64 (bt a0 (ji8))) 127) (ji12))) > 1000000000 then (some (0, 0, false)) else (some (Go.bits .or .i64 x7_1 (shl .i64 (Go.bits .and .i64 (wrap64 (bt a0 (ji8))) 127) (ji12)), wrap64 ((ji8) + 1), true)))) else (if (Go.bits .or .i64 x7_1 (shl .i64 (Go.bits .and .i64 (wrap64 (bt a0 (ji8))) 127) (ji12))) > 1000000000 then (some (0, 0, false)) else (some (Go.bits .or .i64 x7_1 (shl .i64 (Go.bits .and .i64 (wrap64 (bt a0 (ji8))) 127) (ji12)), wrap64 ((ji8) + 1), true))))) else (none)) = some (r1, r2, r3) := by first | (rw [hji12] at H; exact H) | (simp only [hji12] at H ⊢; exact H)
         have hji12w : (IntKind.i64.wrap (7 * x8_1)) = ji12 := (i64_w _).trans hji12
         by_cases c13 : 0 ≤ (ji12)
         ·rw [if_pos c13] at H
          have c13b0 := eq_true c13
          have c13b1 : decide (0 ≤ (ji12)) = true := decide_eq_true c13
          clear c13
          obtain ⟨ji14, hji14⟩ : ∃ j_ : Int, (shl .i64 (Go.bits .and .i64 (wrap64 (bt a0 (ji8))) 127) (ji12)) = j_ := ⟨_, rfl⟩
          replace H : (if (wrap64 (bt a0 (ji8))) > 127 then (impl_ReadVar.l0 kj4 a0 a1 (Go.bits .or .i64 x7_1 (ji14)) (wrap64 (x8_1 + 1))) else (if (wrap64 (bt a0 (ji8))) = 0 then (if x8_1 > 0 then (some (0, 0, false)) else (if (Go.bits .or .i64 x7_1 (ji14)) > 1000000000 then (some (0, 0, false)) else (some (Go.bits .or .i64 x7_1 (ji14), wrap64 ((ji8) + 1), true)))) else (if (Go.bits .or .i64 x7_1 (ji14)) > 1000000000 then (some (0, 0, false)) else (some (Go.bits .or .i64 x7_1 (ji14), wrap64 ((ji8) + 1), true))))) = some (r1, r2, r3) := by first | (rw [hji14] at H; exact H) | (simp only [hji14] at H ⊢; exact H)
          have hji14_ : (IntKind.i64.wrap ((Go.bits .and .i64 (wrap64 (bt a0 (ji8))) 127) * 2 ^ min (ji12).toNat 64)) = ji14 := hji14
          have hji14z : (ji12) ≤ 64 → (IntKind.i64.wrap ((Go.bits .and .i64 (wrap64 (bt a0 (ji8))) 127) * 2 ^ (ji12).toNat)) = ji14 := shl_small hji14
          have hji14y : (wrap64 ((Go.bits .and .i64 (wrap64 (bt a0 (ji8))) 127) * 2 ^ min (ji12).toNat 64)) = ji14 := (i64_w _).symm.trans hji14_
          have hji14x : (ji12) ≤ 64 → (wrap64 ((Go.bits .and .i64 (wrap64 (bt a0 (ji8))) 127) * 2 ^ (ji12).toNat)) = ji14 := fun h_ => (i64_w _).symm.trans (hji14z h_)
          by_cases c15 : (wrap64 (bt a0 (ji8))) > 127
          ·rw [if_pos c15] at H
           have c15b0 : decide (127 < (wrap64 (bt a0 (ji8)))) = true := decide_eq_true c15
           clear c15
           have H' := Aside0.mk H
           clear H
           have p11 : 0 ≤ ((ji8) : Int) := of_decide_eq_true (by with_reducible assumption)
           have q11 : (ji8) < (a0.size : Int) := of_decide_eq_true (by with_reducible assumption)
           have hx11 := bt_at a0 (ji8)
           replace p11 := eq_true p11
           replace q11 := eq_true q11
           go_wp2
           go_roundg kj4
           case measure => have := HK1.out; have := HJ4.out; omega
           case rel => exact ⟨(Go.bits .or .i64 x7_1 (ji14)), (wrap64 (x8_1 + 1)), (by first | rfl | (simp; done) | (simp only [← hji14] <;> (first | rfl | simp)) | (simp [*]; done)), (by first | rfl | (simp; done) | (simp [*]; done)), H', ⟨by have := HK1.out; have := HJ4.out; omega⟩, by repeat (first | exact Drawn0.refl _ | apply Drawn0.step)⟩
          ·rw [if_neg c15] at H
           have c15b0 : decide (127 < (wrap64 (bt a0 (ji8)))) = false := decide_eq_false c15
           clear c15
           by_cases c16 : (wrap64 (bt a0 (ji8))) = 0
           ·rw [if_pos c16] at H
            have c16b0 : ((wrap64 (bt a0 (ji8))) == 0) = true := beq_iff_eq.mpr c16
            have c16b1 : ((wrap64 (bt a0 (ji8))) != 0) = false := bne_eq_false_iff_eq.mpr c16
            clear c16
            by_cases c17 : x8_1 > 0
            ·rw [if_pos c17] at H
             have c17b0 : decide (0 < x8_1) = true := decide_eq_true c17
             clear c17
             simp only [Option.some.injEq, Prod.mk.injEq] at H
             obtain ⟨rfl, rfl, rfl⟩ := H
             have p11 : 0 ≤ ((ji8) : Int) := of_decide_eq_true (by with_reducible assumption)
             have q11 : (ji8) < (a0.size : Int) := of_decide_eq_true (by with_reducible assumption)
             have hx11 := bt_at a0 (ji8)
             replace p11 := eq_true p11
             replace q11 := eq_true q11
             go_wp2
             go_ret3
             exact ⟨by first | rfl | (simp; done) | (simp only [← hji8, ← hji12, ← hji14] <;> (first | rfl | simp)) | (simp [*]; done), by repeat (first | exact Drawn0.refl _ | apply Drawn0.step)⟩
            ·rw [if_neg c17] at H
             have c17b0 : decide (0 < x8_1) = false := decide_eq_false c17
             clear c17
             by_cases c18 : (Go.bits .or .i64 x7_1 (ji14)) > 1000000000
             ·rw [if_pos c18] at H
              have c18b0 : decide (1000000000 < (Go.bits .or .i64 x7_1 (ji14))) = true := decide_eq_true c18
              clear c18
              simp only [Option.some.injEq, Prod.mk.injEq] at H
              obtain ⟨rfl, rfl, rfl⟩ := H
              have p11 : 0 ≤ ((ji8) : Int) := of_decide_eq_true (by with_reducible assumption)
              have q11 : (ji8) < (a0.size : Int) := of_decide_eq_true (by with_reducible assumption)
              have hx11 := bt_at a0 (ji8)
              replace p11 := eq_true p11
              replace q11 := eq_true q11
              go_wp2
              go_ret3
              exact ⟨by first | rfl | (simp; done) | (simp only [← hji8, ← hji12, ← hji14] <;> (first | rfl | simp)) | (simp [*]; done), by repeat (first | exact Drawn0.refl _ | apply Drawn0.step)⟩
             ·rw [if_neg c18] at H
              have c18b0 : decide (1000000000 < (Go.bits .or .i64 x7_1 (ji14))) = false := decide_eq_false c18
              clear c18
              simp only [Option.some.injEq, Prod.mk.injEq] at H
              obtain ⟨rfl, rfl, rfl⟩ := H
              have p11 : 0 ≤ ((ji8) : Int) := of_decide_eq_true (by with_reducible assumption)
              have q11 : (ji8) < (a0.size : Int) := of_decide_eq_true (by with_reducible assumption)
              have hx11 := bt_at a0 (ji8)
              replace p11 := eq_true p11
              replace q11 := eq_true q11
              go_wp2
              go_ret3
              exact ⟨by first | rfl | (simp; done) | (simp only [← hji8, ← hji12, ← hji14] <;> (first | rfl | simp)) | (simp [*]; done), by repeat (first | exact Drawn0.refl _ | apply Drawn0.step)⟩
           ·rw [if_neg c16] at H
            have c16b0 : ((wrap64 (bt a0 (ji8))) == 0) = false := beq_eq_false_iff_ne.mpr c16
            have c16b1 : ((wrap64 (bt a0 (ji8))) != 0) = true := bne_iff_ne.mpr c16
            by_cases c19 : (Go.bits .or .i64 x7_1 (ji14)) > 1000000000
            ·rw [if_pos c19] at H
             have c19b0 : decide (1000000000 < (Go.bits .or .i64 x7_1 (ji14))) = true := decide_eq_true c19
             clear c19
             simp only [Option.some.injEq, Prod.mk.injEq] at H
             obtain ⟨rfl, rfl, rfl⟩ := H
             have p11 : 0 ≤ ((ji8) : Int) := of_decide_eq_true (by with_reducible assumption)
             have q11 : (ji8) < (a0.size : Int) := of_decide_eq_true (by with_reducible assumption)
             have hx11 := bt_at a0 (ji8)
             replace p11 := eq_true p11
             replace q11 := eq_true q11
             go_wp2
             go_ret3
             exact ⟨by first | rfl | (simp; done) | (simp only [← hji8, ← hji12, ← hji14] <;> (first | rfl | simp)) | (simp [*]; done), by repeat (first | exact Drawn0.refl _ | apply Drawn0.step)⟩
            ·rw [if_neg c19] at H
             have c19b0 : decide (1000000000 < (Go.bits .or .i64 x7_1 (ji14))) = false := decide_eq_false c19
             clear c19
             simp only [Option.some.injEq, Prod.mk.injEq] at H
             obtain ⟨rfl, rfl, rfl⟩ := H
             have p11 : 0 ≤ ((ji8) : Int) := of_decide_eq_true (by with_reducible assumption)
             have q11 : (ji8) < (a0.size : Int) := of_decide_eq_true (by with_reducible assumption)
             have hx11 := bt_at a0 (ji8)
             replace p11 := eq_true p11
             replace q11 := eq_true q11
             go_wp2
             go_ret3
             exact ⟨by first | rfl | (simp; done) | (simp only [← hji8, ← hji12, ← hji14] <;> (first | rfl | simp)) | (simp [*]; done), by repeat (first | exact Drawn0.refl _ | apply Drawn0.step)⟩
         ·rw [if_neg c13] at H
          exact absurd H (by simp)
        ·rw [if_neg c10] at H
         exact absurd H (by simp)
       ·rw [if_neg c9] at H
        exact absurd H (by simp)
      ·replace c7 := Bool.eq_false_iff.mpr c7
       subst c7
       have H1 : (some (0, 0, false)) = some (r1, r2, r3) := by rw [if_neg (show ¬ (false = true) by decide)] at H; exact H
       clear H
       have H := H1
       clear H1
       simp only [Option.some.injEq, Prod.mk.injEq] at H
       obtain ⟨rfl, rfl, rfl⟩ := H
       go_wp2
       go_ret3
       exact ⟨by first | rfl | (simp; done) | (simp [*]; done), by repeat (first | exact Drawn0.refl _ | apply Drawn0.step)⟩
 ·replace c4 := Bool.eq_false_iff.mpr c4
  subst c4
  have H1 : (some (0, 0, false)) = some (r1, r2, r3) := by rw [if_neg (show ¬ (false = true) by decide)] at H; exact H
  clear H
  have H := H1
  clear H1
  simp only [Option.some.injEq, Prod.mk.injEq] at H
  obtain ⟨rfl, rfl, rfl⟩ := H
  go_enter Try.func126, Try.ntmps126
  go_wp2_with (first | ((with_reducible refine gate_callee (f := 73) rfl ?_); refine goesL_ (some 13) rfl rfl Try.func73 (by kernel_rfl) rfl #[.int .i64 a1, .int .i64 0, .int .i64 (a0.size : Int)] rfl (by (try simp only [List.map_toArray, List.map_cons, List.map_nil]); first | done | rfl | (simp only [List.length_drop, List.length_take]; rfl)) ?_; (with_reducible refine (impl_in.calls a1 0 (a0.size : Int) false _ A3.out).mono ?_); rintro e w' ⟨rfl, ⟨nd, rfl⟩⟩; refine ⟨_, rfl, ?_⟩))
  go_ret3
  exact ⟨by first | rfl | (simp; done) | (simp [*]; done), by repeat (first | exact Drawn0.refl _ | apply Drawn0.step)⟩
def IsS114 (w0 W : World) (g : Nat) (f0 : ByteArray) (f1 : Int) (f2 : Bool) : Prop := W.heap[g]? = some (.cells #[.string f0, .int .i64 f1, .bool f2] 114 (0, 0)) ∧ w0.heap.size ≤ g
theorem IsS114.grown {w0 W : World} {g : Nat} {f0 : ByteArray} {f1 : Int} {f2 : Bool} {W1 : World} {row : Option Nat} (h : IsS114 w0 W g f0 f1 f2) (hw : W.grownBy W1 row) (hne : some g ≠ row) : IsS114 w0 W1 g f0 f1 f2 := by
 obtain ⟨hb, hg⟩ := h
 exact ⟨blk_grown hb hw hne, hg⟩
theorem IsS114.below {w0 W : World} {g : Nat} {f0 : ByteArray} {f1 : Int} {f2 : Bool} {W1 : World} (h : IsS114 w0 W g f0 f1 f2) (hw : Below W.heap.size W W1) : IsS114 w0 W1 g f0 f1 f2 := h.grown (grown_of_below hw none) (by simp)
theorem IsS114.alloc {w0 W : World} {g : Nat} {f0 : ByteArray} {f1 : Int} {f2 : Bool} (h : IsS114 w0 W g f0 f1 f2) (o : Obj) : IsS114 w0 (W.alloc o) g f0 f1 f2 := h.below (below_alloc (Below.refl _ _) o)
theorem IsS114.drewN {w0 W : World} {g : Nat} {f0 : ByteArray} {f1 : Int} {f2 : Bool} (h : IsS114 w0 W g f0 f1 f2) (m : Nat) : IsS114 w0 (W.drewN m) g f0 f1 f2 := h
theorem IsS114.drew {w0 W : World} {g : Nat} {f0 : ByteArray} {f1 : Int} {f2 : Bool} (h : IsS114 w0 W g f0 f1 f2) : IsS114 w0 W.drew g f0 f1 f2 := h
theorem IsS114.at_ {w0 W : World} {g : Nat} {f0 : ByteArray} {f1 : Int} {f2 : Bool} {w' : World} {m : Nat} (hq : W.drewN m = w') (h : IsS114 w0 W g f0 f1 f2) : IsS114 w0 w' g f0 f1 f2 := by subst hq; exact IsS114.drewN h m
theorem IsS114.own_ne {w0 W : World} {g : Nat} {f0 : ByteArray} {f1 : Int} {f2 : Bool} {α : Type} {d : Kd α} {e : Nat} {base : Nat} {ok : Nat → Prop} {v : Value} {xs : List α} (h : IsS114 w0 W g f0 f1 f2) (ho : d.R e W base ok v xs) (ht : e ≠ 114) : some g ≠ v.ownBlock := by
 obtain ⟨hb, hg⟩ := h
 exact Kd.R_ne ho hb ht
theorem IsS114.ge {w0 W : World} {g : Nat} {f0 : ByteArray} {f1 : Int} {f2 : Bool} (h : IsS114 w0 W g f0 f1 f2) : w0.heap.size ≤ g := by
 obtain ⟨hb, hg⟩ := h
 exact hg
theorem cellS114_0 {W : World} {g : Nat} {f0 : ByteArray} {f1 : Int} {f2 : Bool} (h : W.heap[g]? = some (.cells #[.string f0, .int .i64 f1, .bool f2] 114 (0, 0))) : W.cell? ⟨g, 0, none⟩ = some (.string f0) := (blk_cell h 0).trans rfl
theorem IsS114.set_0 {w0 W : World} {g : Nat} {f0 : ByteArray} {f1 : Int} {f2 : Bool} (h : IsS114 w0 W g f0 f1 f2) (x : ByteArray) : IsS114 w0 (W.setCell ⟨g, 0, none⟩ (.string x)) g x f1 f2 := by
 obtain ⟨hb, hg⟩ := h
 exact ⟨by simpa using blk_set hb 0 (.string x), hg⟩
theorem cellS114_1 {W : World} {g : Nat} {f0 : ByteArray} {f1 : Int} {f2 : Bool} (h : W.heap[g]? = some (.cells #[.string f0, .int .i64 f1, .bool f2] 114 (0, 0))) : W.cell? ⟨g, 1, none⟩ = some (.int .i64 f1) := (blk_cell h 1).trans rfl
theorem IsS114.set_1 {w0 W : World} {g : Nat} {f0 : ByteArray} {f1 : Int} {f2 : Bool} (h : IsS114 w0 W g f0 f1 f2) (x : Int) : IsS114 w0 (W.setCell ⟨g, 1, none⟩ (.int .i64 x)) g f0 x f2 := by
 obtain ⟨hb, hg⟩ := h
 exact ⟨by simpa using blk_set hb 1 (.int .i64 x), hg⟩
theorem cellS114_2 {W : World} {g : Nat} {f0 : ByteArray} {f1 : Int} {f2 : Bool} (h : W.heap[g]? = some (.cells #[.string f0, .int .i64 f1, .bool f2] 114 (0, 0))) : W.cell? ⟨g, 2, none⟩ = some (.bool f2) := (blk_cell h 2).trans rfl
theorem IsS114.set_2 {w0 W : World} {g : Nat} {f0 : ByteArray} {f1 : Int} {f2 : Bool} (h : IsS114 w0 W g f0 f1 f2) (x : Bool) : IsS114 w0 (W.setCell ⟨g, 2, none⟩ (.bool x)) g f0 f1 x := by
 obtain ⟨hb, hg⟩ := h
 exact ⟨by simpa using blk_set hb 2 (.bool x), hg⟩
theorem IsS114.new (w0 W : World) (f0 : ByteArray) (f1 : Int) (f2 : Bool) (hB : Below w0.heap.size w0 W) : IsS114 w0 (W.alloc (.cells #[.string f0, .int .i64 f1, .bool f2] 114)) W.heap.size f0 f1 f2 := ⟨by simpa using heap_alloc_new W _, hB.size⟩
def impl_reader_num.f (k : Nat) (s0_0 : ByteArray) (s0_1 : Int) (s0_2 : Bool) (a1 : Int) : Option (Int × ByteArray × Int × Bool) := (impl_ReadVar.f k s0_0 s0_1).bind fun bt217 => (if s0_2 = true then (some (0, s0_0, s0_1, true)) else (if bt217.2.2 = true then (if bt217.1 > a1 then (some (0, s0_0, s0_1, true)) else (some (bt217.1, s0_0, bt217.2.1, s0_2))) else (some (0, s0_0, s0_1, true))))
theorem impl_reader_num.mono : ∀ a0 a1 a2 a3 k, LeO (impl_reader_num.f k a0 a1 a2 a3) (impl_reader_num.f (k + 1) a0 a1 a2 a3) := by
 intro a0 a1 a2 a3 k
 unfold impl_reader_num.f
 repeat' first
   | (with_reducible exact impl_ReadVar.mono _ _ _)
   | (with_reducible exact LeO.refl _)
   | (with_reducible exact LeO.none _)
   | (with_reducible refine LeO.ite ?_ ?_)
   | (with_reducible refine LeO.bind ?_ (fun _ => ?_))
   | exact impl_ReadVar.mono _ _ _
theorem impl_reader_num.calls (k : Nat) (g : Nat) (s0_0 : ByteArray) (s0_1 : Int) (s0_2 : Bool) (a1 : Int) (r1 : Int) (r2 : ByteArray) (r3 : Int) (r4 : Bool) (w0 w : World) (hI : IsS114 w0 w g s0_0 s0_1 s0_2) (hB : Below w0.heap.size w0 w) (h : impl_reader_num.f k s0_0 s0_1 s0_2 a1 = some (r1, r2, r3, r4)) :
  Calls Try.prog 70 #[.pointer (some ⟨g, 0, none⟩), .int .i64 a1] w fun e w' => e = .returned (.int .i64 r1) ∧ IsS114 w0 w' g r2 r3 r4 ∧ Below w0.heap.size w0 w' ∧ KeepBut w w' g none := by
 have HI0 := Aside0.mk hI
 have HK := Aside0.mk (KeepBut.refl w g none)
 have HL := Aside0.mk hB.size
 clear hI
 have HW0 := Aside0.mk hB.size
 have HB := Aside0.mk hB
 clear hB
 have H : ((impl_ReadVar.f k s0_0 s0_1).bind fun bt217 => (if s0_2 = true then (some (0, s0_0, s0_1, true)) else (if bt217.2.2 = true then (if bt217.1 > a1 then (some (0, s0_0, s0_1, true)) else (some (bt217.1, s0_0, bt217.2.1, s0_2))) else (some (0, s0_0, s0_1, true))))) = some (r1, r2, r3, r4) := h
 clear h
 replace H := Option.bind_eq_some_iff.mp H
 obtain ⟨⟨t217, t218, t219⟩, A30, H⟩ := H
 replace H : (if s0_2 = true then (some (0, s0_0, s0_1, true)) else (if t219 = true then (if t217 > a1 then (some (0, s0_0, s0_1, true)) else (some (t217, s0_0, t218, s0_2))) else (some (0, s0_0, s0_1, true)))) = some (r1, r2, r3, r4) := H
 have A3 := Aside0.mk A30
 clear A30
 by_cases c4 : s0_2 = true
 ·subst c4
  have H1 : (some (0, s0_0, s0_1, true)) = some (r1, r2, r3, r4) := by rw [if_pos rfl] at H; exact H
  clear H
  have H := H1
  clear H1
  simp only [Option.some.injEq, Prod.mk.injEq] at H
  obtain ⟨rfl, rfl, rfl, rfl⟩ := H
  obtain ⟨HGz5, hgz5⟩ := HI0.out
  have hcz5_0 := cellS114_0 HGz5
  have hcz5_1 := cellS114_1 HGz5
  have hcz5_2 := cellS114_2 HGz5
  have hfz5_0 := blk_frozen HGz5 0
  have hfz5_1 := blk_frozen HGz5 1
  have hfz5_2 := blk_frozen HGz5 2
  clear HGz5 hgz5
  go_enter Try.func70, Try.ntmps70
  go_wp2_with (first | (go_at_call 126; (with_reducible refine (impl_ReadVar.calls k s0_0 s0_1 t217 t218 t219 _ A3.out).mono ?_); rintro e w' ⟨rfl, ⟨nd, rfl⟩⟩; (try first | exact ⟨rfl, _, World.drewN_drewN _ _ _⟩ | exact ⟨rfl, _, Eq.trans (World.drewN_drewN _ _ _) (congrArg (World.drewN _) (Nat.add_assoc _ _ _))⟩)))
  repeat (go_quiet (first | (go_at_call 126; (with_reducible refine (impl_ReadVar.calls k s0_0 s0_1 t217 t218 t219 _ A3.out).mono ?_); rintro e w' ⟨rfl, ⟨nd, rfl⟩⟩; (try first | exact ⟨rfl, _, World.drewN_drewN _ _ _⟩ | exact ⟨rfl, _, Eq.trans (World.drewN_drewN _ _ _) (congrArg (World.drewN _) (Nat.add_assoc _ _ _))⟩))); try go_wp2_with (first | (go_at_call 126; (with_reducible refine (impl_ReadVar.calls k s0_0 s0_1 t217 t218 t219 _ A3.out).mono ?_); rintro e w' ⟨rfl, ⟨nd, rfl⟩⟩; (try first | exact ⟨rfl, _, World.drewN_drewN _ _ _⟩ | exact ⟨rfl, _, Eq.trans (World.drewN_drewN _ _ _) (congrArg (World.drewN _) (Nat.add_assoc _ _ _))⟩))))
  go_ret
  exact ⟨by first | rfl | (simp [errW_none, errW_some] <;> rfl) | (simp [*, errW_none, errW_some] <;> rfl), by repeat (first | (with_reducible first | exact HI0.out | apply IsS114.alloc | apply IsS114.drewN | apply IsS114.drew | apply IsS114.set_0 | apply IsS114.set_1 | apply IsS114.set_2) | exact HI0.out), by repeat (first | (with_reducible first | exact HB.out | apply below_alloc | apply pw_below_drewN | apply below_drew1 | refine below_set ?_ (IsS114.ge HI0.out)) | exact HB.out), by repeat (first | (with_reducible first | exact HK.out | apply KeepBut.set_ | apply keep_drewN | apply keep_drew | apply keep_alloc) | exact HK.out)⟩
 ·replace c4 := Bool.eq_false_iff.mpr c4
  subst c4
  have H1 : (if t219 = true then (if t217 > a1 then (some (0, s0_0, s0_1, true)) else (some (t217, s0_0, t218, false))) else (some (0, s0_0, s0_1, true))) = some (r1, r2, r3, r4) := by rw [if_neg (show ¬ (false = true) by decide)] at H; exact H
  clear H
  have H := H1
  clear H1
  by_cases c6 : t219 = true
  ·subst c6
   have H1 : (if t217 > a1 then (some (0, s0_0, s0_1, true)) else (some (t217, s0_0, t218, false))) = some (r1, r2, r3, r4) := by rw [if_pos rfl] at H; exact H
   clear H
   have H := H1
   clear H1
   by_cases c7 : t217 > a1
   ·rw [if_pos c7] at H
    have c7b0 : decide (a1 < t217) = true := decide_eq_true c7
    clear c7
    simp only [Option.some.injEq, Prod.mk.injEq] at H
    obtain ⟨rfl, rfl, rfl, rfl⟩ := H
    obtain ⟨HGz8, hgz8⟩ := HI0.out
    have hcz8_0 := cellS114_0 HGz8
    have hcz8_1 := cellS114_1 HGz8
    have hcz8_2 := cellS114_2 HGz8
    have hfz8_0 := blk_frozen HGz8 0
    have hfz8_1 := blk_frozen HGz8 1
    have hfz8_2 := blk_frozen HGz8 2
    clear HGz8 hgz8
    go_enter Try.func70, Try.ntmps70
    go_wp2_with (first | (go_at_call 126; (with_reducible refine (impl_ReadVar.calls k s0_0 s0_1 t217 t218 true _ A3.out).mono ?_); rintro e w' ⟨rfl, ⟨nd, rfl⟩⟩; (try first | exact ⟨rfl, _, World.drewN_drewN _ _ _⟩ | exact ⟨rfl, _, Eq.trans (World.drewN_drewN _ _ _) (congrArg (World.drewN _) (Nat.add_assoc _ _ _))⟩)))
    repeat (go_quiet (first | (go_at_call 126; (with_reducible refine (impl_ReadVar.calls k s0_0 s0_1 t217 t218 true _ A3.out).mono ?_); rintro e w' ⟨rfl, ⟨nd, rfl⟩⟩; (try first | exact ⟨rfl, _, World.drewN_drewN _ _ _⟩ | exact ⟨rfl, _, Eq.trans (World.drewN_drewN _ _ _) (congrArg (World.drewN _) (Nat.add_assoc _ _ _))⟩))); try go_wp2_with (first | (go_at_call 126; (with_reducible refine (impl_ReadVar.calls k s0_0 s0_1 t217 t218 true _ A3.out).mono ?_); rintro e w' ⟨rfl, ⟨nd, rfl⟩⟩; (try first | exact ⟨rfl, _, World.drewN_drewN _ _ _⟩ | exact ⟨rfl, _, Eq.trans (World.drewN_drewN _ _ _) (congrArg (World.drewN _) (Nat.add_assoc _ _ _))⟩))))
    go_ret
    exact ⟨by first | rfl | (simp [errW_none, errW_some] <;> rfl) | (simp [*, errW_none, errW_some] <;> rfl), by repeat (first | (with_reducible first | exact HI0.out | apply IsS114.alloc | apply IsS114.drewN | apply IsS114.drew | apply IsS114.set_0 | apply IsS114.set_1 | apply IsS114.set_2) | exact HI0.out), by repeat (first | (with_reducible first | exact HB.out | apply below_alloc | apply pw_below_drewN | apply below_drew1 | refine below_set ?_ (IsS114.ge HI0.out)) | exact HB.out), by repeat (first | (with_reducible first | exact HK.out | apply KeepBut.set_ | apply keep_drewN | apply keep_drew | apply keep_alloc) | exact HK.out)⟩
   ·rw [if_neg c7] at H
    have c7b0 : decide (a1 < t217) = false := decide_eq_false c7
    clear c7
    simp only [Option.some.injEq, Prod.mk.injEq] at H
    obtain ⟨rfl, rfl, rfl, rfl⟩ := H
    obtain ⟨HGz9, hgz9⟩ := HI0.out
    have hcz9_0 := cellS114_0 HGz9
    have hcz9_1 := cellS114_1 HGz9
    have hcz9_2 := cellS114_2 HGz9
    have hfz9_0 := blk_frozen HGz9 0
    have hfz9_1 := blk_frozen HGz9 1
    have hfz9_2 := blk_frozen HGz9 2
    clear HGz9 hgz9
    go_enter Try.func70, Try.ntmps70
    go_wp2_with (first | (go_at_call 126; (with_reducible refine (impl_ReadVar.calls k s0_0 s0_1 t217 t218 true _ A3.out).mono ?_); rintro e w' ⟨rfl, ⟨nd, rfl⟩⟩; (try first | exact ⟨rfl, _, World.drewN_drewN _ _ _⟩ | exact ⟨rfl, _, Eq.trans (World.drewN_drewN _ _ _) (congrArg (World.drewN _) (Nat.add_assoc _ _ _))⟩)))
    repeat (go_quiet (first | (go_at_call 126; (with_reducible refine (impl_ReadVar.calls k s0_0 s0_1 t217 t218 true _ A3.out).mono ?_); rintro e w' ⟨rfl, ⟨nd, rfl⟩⟩; (try first | exact ⟨rfl, _, World.drewN_drewN _ _ _⟩ | exact ⟨rfl, _, Eq.trans (World.drewN_drewN _ _ _) (congrArg (World.drewN _) (Nat.add_assoc _ _ _))⟩))); try go_wp2_with (first | (go_at_call 126; (with_reducible refine (impl_ReadVar.calls k s0_0 s0_1 t217 t218 true _ A3.out).mono ?_); rintro e w' ⟨rfl, ⟨nd, rfl⟩⟩; (try first | exact ⟨rfl, _, World.drewN_drewN _ _ _⟩ | exact ⟨rfl, _, Eq.trans (World.drewN_drewN _ _ _) (congrArg (World.drewN _) (Nat.add_assoc _ _ _))⟩))))
    go_ret
    exact ⟨by first | rfl | (simp [errW_none, errW_some] <;> rfl) | (simp [*, errW_none, errW_some] <;> rfl), by repeat (first | (with_reducible first | exact HI0.out | apply IsS114.alloc | apply IsS114.drewN | apply IsS114.drew | apply IsS114.set_0 | apply IsS114.set_1 | apply IsS114.set_2) | exact HI0.out), by repeat (first | (with_reducible first | exact HB.out | apply below_alloc | apply pw_below_drewN | apply below_drew1 | refine below_set ?_ (IsS114.ge HI0.out)) | exact HB.out), by repeat (first | (with_reducible first | exact HK.out | apply KeepBut.set_ | apply keep_drewN | apply keep_drew | apply keep_alloc) | exact HK.out)⟩
  ·replace c6 := Bool.eq_false_iff.mpr c6
   subst c6
   have H1 : (some (0, s0_0, s0_1, true)) = some (r1, r2, r3, r4) := by rw [if_neg (show ¬ (false = true) by decide)] at H; exact H
   clear H
   have H := H1
   clear H1
   simp only [Option.some.injEq, Prod.mk.injEq] at H
   obtain ⟨rfl, rfl, rfl, rfl⟩ := H
   obtain ⟨HGz10, hgz10⟩ := HI0.out
   have hcz10_0 := cellS114_0 HGz10
   have hcz10_1 := cellS114_1 HGz10
   have hcz10_2 := cellS114_2 HGz10
   have hfz10_0 := blk_frozen HGz10 0
   have hfz10_1 := blk_frozen HGz10 1
   have hfz10_2 := blk_frozen HGz10 2
   clear HGz10 hgz10
   go_enter Try.func70, Try.ntmps70
   go_wp2_with (first | (go_at_call 126; (with_reducible refine (impl_ReadVar.calls k s0_0 s0_1 t217 t218 false _ A3.out).mono ?_); rintro e w' ⟨rfl, ⟨nd, rfl⟩⟩; (try first | exact ⟨rfl, _, World.drewN_drewN _ _ _⟩ | exact ⟨rfl, _, Eq.trans (World.drewN_drewN _ _ _) (congrArg (World.drewN _) (Nat.add_assoc _ _ _))⟩)))
   repeat (go_quiet (first | (go_at_call 126; (with_reducible refine (impl_ReadVar.calls k s0_0 s0_1 t217 t218 false _ A3.out).mono ?_); rintro e w' ⟨rfl, ⟨nd, rfl⟩⟩; (try first | exact ⟨rfl, _, World.drewN_drewN _ _ _⟩ | exact ⟨rfl, _, Eq.trans (World.drewN_drewN _ _ _) (congrArg (World.drewN _) (Nat.add_assoc _ _ _))⟩))); try go_wp2_with (first | (go_at_call 126; (with_reducible refine (impl_ReadVar.calls k s0_0 s0_1 t217 t218 false _ A3.out).mono ?_); rintro e w' ⟨rfl, ⟨nd, rfl⟩⟩; (try first | exact ⟨rfl, _, World.drewN_drewN _ _ _⟩ | exact ⟨rfl, _, Eq.trans (World.drewN_drewN _ _ _) (congrArg (World.drewN _) (Nat.add_assoc _ _ _))⟩))))
   go_ret
   exact ⟨by first | rfl | (simp [errW_none, errW_some] <;> rfl) | (simp [*, errW_none, errW_some] <;> rfl), by repeat (first | (with_reducible first | exact HI0.out | apply IsS114.alloc | apply IsS114.drewN | apply IsS114.drew | apply IsS114.set_0 | apply IsS114.set_1 | apply IsS114.set_2) | exact HI0.out), by repeat (first | (with_reducible first | exact HB.out | apply below_alloc | apply pw_below_drewN | apply below_drew1 | refine below_set ?_ (IsS114.ge HI0.out)) | exact HB.out), by repeat (first | (with_reducible first | exact HK.out | apply KeepBut.set_ | apply keep_drewN | apply keep_drew | apply keep_alloc) | exact HK.out)⟩
def impl_ReadShort.f (k : Nat) (a0 : ByteArray) (a1 : Int) : Option (ByteArray × Int × Bool) := (impl_ReadVar.f k a0 a1).bind fun bt220 => (if bt220.2.2 = true then (if bt220.1 > 20000 then (some ((⟨#[]⟩ : ByteArray), 0, false)) else (if bt220.1 > (wrap64 ((a0.size : Int) - bt220.2.1)) then (some ((⟨#[]⟩ : ByteArray), 0, false)) else (if 0 ≤ bt220.2.1 then (if bt220.2.1 ≤ (wrap64 (bt220.2.1 + bt220.1)) then (if (wrap64 (bt220.2.1 + bt220.1)) ≤ (a0.size : Int) then (some (a0.extract (bt220.2.1 : Int).toNat ((wrap64 (bt220.2.1 + bt220.1)) : Int).toNat, wrap64 (bt220.2.1 + bt220.1), true)) else (none)) else (none)) else (none)))) else (some ((⟨#[]⟩ : ByteArray), 0, false)))
theorem impl_ReadShort.mono : ∀ a0 a1 k, LeO (impl_ReadShort.f k a0 a1) (impl_ReadShort.f (k + 1) a0 a1) := by
 intro a0 a1 k
 unfold impl_ReadShort.f
 repeat' first
   | (with_reducible exact impl_ReadVar.mono _ _ _)
   | (with_reducible exact LeO.refl _)
   | (with_reducible exact LeO.none _)
   | (with_reducible refine LeO.ite ?_ ?_)
   | (with_reducible refine LeO.bind ?_ (fun _ => ?_))
   | exact impl_ReadVar.mono _ _ _
theorem impl_ReadShort.calls (k : Nat) (a0 : ByteArray) (a1 : Int) (r1 : ByteArray) (r2 : Int) (r3 : Bool) (w : World) (h : impl_ReadShort.f k a0 a1 = some (r1, r2, r3)) :
  Calls Try.prog 134 #[.string a0, .int .i64 a1] w fun e w' => e = .returned (.tuple #[.string r1, .int .i64 r2, .bool r3]) ∧ Drawn0 w w' := by
 have H : ((impl_ReadVar.f k a0 a1).bind fun bt220 => (if bt220.2.2 = true then (if bt220.1 > 20000 then (some ((⟨#[]⟩ : ByteArray), 0, false)) else (if bt220.1 > (wrap64 ((a0.size : Int) - bt220.2.1)) then (some ((⟨#[]⟩ : ByteArray), 0, false)) else (if 0 ≤ bt220.2.1 then (if bt220.2.1 ≤ (wrap64 (bt220.2.1 + bt220.1)) then (if (wrap64 (bt220.2.1 + bt220.1)) ≤ (a0.size : Int) then (some (a0.extract (bt220.2.1 : Int).toNat ((wrap64 (bt220.2.1 + bt220.1)) : Int).toNat, wrap64 (bt220.2.1 + bt220.1), true)) else (none)) else (none)) else (none)))) else (some ((⟨#[]⟩ : ByteArray), 0, false)))) = some (r1, r2, r3) := h
 clear h
 replace H := Option.bind_eq_some_iff.mp H
 obtain ⟨⟨t220, t221, t222⟩, A30, H⟩ := H
 replace H : (if t222 = true then (if t220 > 20000 then (some ((⟨#[]⟩ : ByteArray), 0, false)) else (if t220 > (wrap64 ((a0.size : Int) - t221)) then (some ((⟨#[]⟩ : ByteArray), 0, false)) else (if 0 ≤ t221 then (if t221 ≤ (wrap64 (t221 + t220)) then (if (wrap64 (t221 + t220)) ≤ (a0.size : Int) then (some (a0.extract (t221 : Int).toNat ((wrap64 (t221 + t220)) : Int).toNat, wrap64 (t221 + t220), true)) else (none)) else (none)) else (none)))) else (some ((⟨#[]⟩ : ByteArray), 0, false))) = some (r1, r2, r3) := H
 have A3 := Aside0.mk A30
 clear A30
 by_cases c4 : t222 = true
 ·subst c4
  have H1 : (if t220 > 20000 then (some ((⟨#[]⟩ : ByteArray), 0, false)) else (if t220 > (wrap64 ((a0.size : Int) - t221)) then (some ((⟨#[]⟩ : ByteArray), 0, false)) else (if 0 ≤ t221 then (if t221 ≤ (wrap64 (t221 + t220)) then (if (wrap64 (t221 + t220)) ≤ (a0.size : Int) then (some (a0.extract (t221 : Int).toNat ((wrap64 (t221 + t220)) : Int).toNat, wrap64 (t221 + t220), true)) else (none)) else (none)) else (none)))) = some (r1, r2, r3) := by rw [if_pos rfl] at H; exact H
  clear H
  have H := H1
  clear H1
  by_cases c5 : t220 > 20000
  ·rw [if_pos c5] at H
   have c5b0 : decide (20000 < t220) = true := decide_eq_true c5
   clear c5
   simp only [Option.some.injEq, Prod.mk.injEq] at H
   obtain ⟨rfl, rfl, rfl⟩ := H
   go_enter Try.func134, Try.ntmps134
   go_wp2_with (first | ((with_reducible refine gate_callee (f := 126) rfl ?_); refine goesL_ (some 13) rfl rfl Try.func126 (by kernel_rfl) rfl #[.string a0, .int .i64 a1] rfl (by (try simp only [List.map_toArray, List.map_cons, List.map_nil]); first | done | rfl | (simp only [List.length_drop, List.length_take]; rfl)) ?_; (with_reducible refine (impl_ReadVar.calls k a0 a1 t220 t221 true _ A3.out).mono ?_); rintro e w' ⟨rfl, ⟨nd, rfl⟩⟩; refine ⟨_, rfl, ?_⟩))
   go_ret3
   exact ⟨by first | rfl | (simp; done) | (simp [*]; done), by repeat (first | exact Drawn0.refl _ | apply Drawn0.step)⟩
  ·rw [if_neg c5] at H
   have c5b0 : decide (20000 < t220) = false := decide_eq_false c5
   clear c5
   by_cases c6 : t220 > (wrap64 ((a0.size : Int) - t221))
   ·rw [if_pos c6] at H
    have c6b0 : decide ((wrap64 ((a0.size : Int) - t221)) < t220) = true := decide_eq_true c6
    clear c6
    simp only [Option.some.injEq, Prod.mk.injEq] at H
    obtain ⟨rfl, rfl, rfl⟩ := H
    go_enter Try.func134, Try.ntmps134
    go_wp2_with (first | ((with_reducible refine gate_callee (f := 126) rfl ?_); refine goesL_ (some 13) rfl rfl Try.func126 (by kernel_rfl) rfl #[.string a0, .int .i64 a1] rfl (by (try simp only [List.map_toArray, List.map_cons, List.map_nil]); first | done | rfl | (simp only [List.length_drop, List.length_take]; rfl)) ?_; (with_reducible refine (impl_ReadVar.calls k a0 a1 t220 t221 true _ A3.out).mono ?_); rintro e w' ⟨rfl, ⟨nd, rfl⟩⟩; refine ⟨_, rfl, ?_⟩))
    go_ret3
    exact ⟨by first | rfl | (simp; done) | (simp [*]; done), by repeat (first | exact Drawn0.refl _ | apply Drawn0.step)⟩
   ·rw [if_neg c6] at H
    have c6b0 : decide ((wrap64 ((a0.size : Int) - t221)) < t220) = false := decide_eq_false c6
    clear c6
    by_cases c7 : 0 ≤ t221
    ·rw [if_pos c7] at H
     have c7b0 := eq_true c7
     have c7b1 : decide (0 ≤ t221) = true := decide_eq_true c7
     clear c7
     by_cases c8 : t221 ≤ (wrap64 (t221 + t220))
     ·rw [if_pos c8] at H
      have c8b0 := eq_true c8
      have c8b1 : decide (t221 ≤ (wrap64 (t221 + t220))) = true := decide_eq_true c8
      by_cases c9 : (wrap64 (t221 + t220)) ≤ (a0.size : Int)
      ·rw [if_pos c9] at H
       have c9b0 := eq_true c9
       have c9b1 : decide ((wrap64 (t221 + t220)) ≤ (a0.size : Int)) = true := decide_eq_true c9
       simp only [Option.some.injEq, Prod.mk.injEq] at H
       obtain ⟨rfl, rfl, rfl⟩ := H
       go_enter Try.func134, Try.ntmps134
       go_wp2_with (first | ((with_reducible refine gate_callee (f := 126) rfl ?_); refine goesL_ (some 13) rfl rfl Try.func126 (by kernel_rfl) rfl #[.string a0, .int .i64 a1] rfl (by (try simp only [List.map_toArray, List.map_cons, List.map_nil]); first | done | rfl | (simp only [List.length_drop, List.length_take]; rfl)) ?_; (with_reducible refine (impl_ReadVar.calls k a0 a1 t220 t221 true _ A3.out).mono ?_); rintro e w' ⟨rfl, ⟨nd, rfl⟩⟩; refine ⟨_, rfl, ?_⟩))
       go_ret3
       exact ⟨by first | rfl | (simp; done) | (simp [*]; done), by repeat (first | exact Drawn0.refl _ | apply Drawn0.step)⟩
      ·rw [if_neg c9] at H
       exact absurd H (by simp)
     ·rw [if_neg c8] at H
      exact absurd H (by simp)
    ·rw [if_neg c7] at H
     exact absurd H (by simp)
 ·replace c4 := Bool.eq_false_iff.mpr c4
  subst c4
  have H1 : (some ((⟨#[]⟩ : ByteArray), 0, false)) = some (r1, r2, r3) := by rw [if_neg (show ¬ (false = true) by decide)] at H; exact H
  clear H
  have H := H1
  clear H1
  simp only [Option.some.injEq, Prod.mk.injEq] at H
  obtain ⟨rfl, rfl, rfl⟩ := H
  go_enter Try.func134, Try.ntmps134
  go_wp2_with (first | ((with_reducible refine gate_callee (f := 126) rfl ?_); refine goesL_ (some 13) rfl rfl Try.func126 (by kernel_rfl) rfl #[.string a0, .int .i64 a1] rfl (by (try simp only [List.map_toArray, List.map_cons, List.map_nil]); first | done | rfl | (simp only [List.length_drop, List.length_take]; rfl)) ?_; (with_reducible refine (impl_ReadVar.calls k a0 a1 t220 t221 false _ A3.out).mono ?_); rintro e w' ⟨rfl, ⟨nd, rfl⟩⟩; refine ⟨_, rfl, ?_⟩))
  go_ret3
  exact ⟨by first | rfl | (simp; done) | (simp [*]; done), by repeat (first | exact Drawn0.refl _ | apply Drawn0.step)⟩
def impl_reader_text.f (k : Nat) (s0_0 : ByteArray) (s0_1 : Int) (s0_2 : Bool) : Option (ByteArray × ByteArray × Int × Bool) := (impl_ReadShort.f k s0_0 s0_1).bind fun bt223 => (if s0_2 = true then (some ((⟨#[]⟩ : ByteArray), s0_0, s0_1, true)) else (if bt223.2.2 = true then (some (bt223.1, s0_0, bt223.2.1, s0_2)) else (some ((⟨#[]⟩ : ByteArray), s0_0, s0_1, true))))
theorem impl_reader_text.mono : ∀ a0 a1 a2 k, LeO (impl_reader_text.f k a0 a1 a2) (impl_reader_text.f (k + 1) a0 a1 a2) := by
 intro a0 a1 a2 k
 unfold impl_reader_text.f
 repeat' first
   | (with_reducible exact impl_ReadShort.mono _ _ _)
   | (with_reducible exact LeO.refl _)
   | (with_reducible exact LeO.none _)
   | (with_reducible refine LeO.ite ?_ ?_)
   | (with_reducible refine LeO.bind ?_ (fun _ => ?_))
   | exact impl_ReadShort.mono _ _ _
theorem impl_reader_text.calls (k : Nat) (g : Nat) (s0_0 : ByteArray) (s0_1 : Int) (s0_2 : Bool) (r1 : ByteArray) (r2 : ByteArray) (r3 : Int) (r4 : Bool) (w0 w : World) (hI : IsS114 w0 w g s0_0 s0_1 s0_2) (hB : Below w0.heap.size w0 w) (h : impl_reader_text.f k s0_0 s0_1 s0_2 = some (r1, r2, r3, r4)) :
  Calls Try.prog 88 #[.pointer (some ⟨g, 0, none⟩)] w fun e w' => e = .returned (.string r1) ∧ IsS114 w0 w' g r2 r3 r4 ∧ Below w0.heap.size w0 w' ∧ KeepBut w w' g none := by
 have HI0 := Aside0.mk hI
 have HK := Aside0.mk (KeepBut.refl w g none)
 have HL := Aside0.mk hB.size
 clear hI
 have HW0 := Aside0.mk hB.size
 have HB := Aside0.mk hB
 clear hB
 have H : ((impl_ReadShort.f k s0_0 s0_1).bind fun bt223 => (if s0_2 = true then (some ((⟨#[]⟩ : ByteArray), s0_0, s0_1, true)) else (if bt223.2.2 = true then (some (bt223.1, s0_0, bt223.2.1, s0_2)) else (some ((⟨#[]⟩ : ByteArray), s0_0, s0_1, true))))) = some (r1, r2, r3, r4) := h
 clear h
 replace H := Option.bind_eq_some_iff.mp H
 obtain ⟨⟨t223, t224, t225⟩, A20, H⟩ := H
 replace H : (if s0_2 = true then (some ((⟨#[]⟩ : ByteArray), s0_0, s0_1, true)) else (if t225 = true then (some (t223, s0_0, t224, s0_2)) else (some ((⟨#[]⟩ : ByteArray), s0_0, s0_1, true)))) = some (r1, r2, r3, r4) := H
 have A2 := Aside0.mk A20
 clear A20
 by_cases c3 : s0_2 = true
 ·subst c3
  have H1 : (some ((⟨#[]⟩ : ByteArray), s0_0, s0_1, true)) = some (r1, r2, r3, r4) := by rw [if_pos rfl] at H; exact H
  clear H
  have H := H1
  clear H1
  simp only [Option.some.injEq, Prod.mk.injEq] at H
  obtain ⟨rfl, rfl, rfl, rfl⟩ := H
  obtain ⟨HGz4, hgz4⟩ := HI0.out
  have hcz4_0 := cellS114_0 HGz4
  have hcz4_1 := cellS114_1 HGz4
  have hcz4_2 := cellS114_2 HGz4
  have hfz4_0 := blk_frozen HGz4 0
  have hfz4_1 := blk_frozen HGz4 1
  have hfz4_2 := blk_frozen HGz4 2
  clear HGz4 hgz4
  go_enter Try.func88, Try.ntmps88
  go_wp2_with (first | (go_at_call 134; (with_reducible refine (impl_ReadShort.calls k s0_0 s0_1 t223 t224 t225 _ A2.out).mono ?_); rintro e w' ⟨rfl, ⟨nd, rfl⟩⟩; (try first | exact ⟨rfl, _, World.drewN_drewN _ _ _⟩ | exact ⟨rfl, _, Eq.trans (World.drewN_drewN _ _ _) (congrArg (World.drewN _) (Nat.add_assoc _ _ _))⟩)))
  repeat (go_quiet (first | (go_at_call 134; (with_reducible refine (impl_ReadShort.calls k s0_0 s0_1 t223 t224 t225 _ A2.out).mono ?_); rintro e w' ⟨rfl, ⟨nd, rfl⟩⟩; (try first | exact ⟨rfl, _, World.drewN_drewN _ _ _⟩ | exact ⟨rfl, _, Eq.trans (World.drewN_drewN _ _ _) (congrArg (World.drewN _) (Nat.add_assoc _ _ _))⟩))); try go_wp2_with (first | (go_at_call 134; (with_reducible refine (impl_ReadShort.calls k s0_0 s0_1 t223 t224 t225 _ A2.out).mono ?_); rintro e w' ⟨rfl, ⟨nd, rfl⟩⟩; (try first | exact ⟨rfl, _, World.drewN_drewN _ _ _⟩ | exact ⟨rfl, _, Eq.trans (World.drewN_drewN _ _ _) (congrArg (World.drewN _) (Nat.add_assoc _ _ _))⟩))))
  go_ret
  exact ⟨by first | rfl | (simp [errW_none, errW_some] <;> rfl) | (simp [*, errW_none, errW_some] <;> rfl), by repeat (first | (with_reducible first | exact HI0.out | apply IsS114.alloc | apply IsS114.drewN | apply IsS114.drew | apply IsS114.set_0 | apply IsS114.set_1 | apply IsS114.set_2) | exact HI0.out), by repeat (first | (with_reducible first | exact HB.out | apply below_alloc | apply pw_below_drewN | apply below_drew1 | refine below_set ?_ (IsS114.ge HI0.out)) | exact HB.out), by repeat (first | (with_reducible first | exact HK.out | apply KeepBut.set_ | apply keep_drewN | apply keep_drew | apply keep_alloc) | exact HK.out)⟩
 ·replace c3 := Bool.eq_false_iff.mpr c3
  subst c3
  have H1 : (if t225 = true then (some (t223, s0_0, t224, false)) else (some ((⟨#[]⟩ : ByteArray), s0_0, s0_1, true))) = some (r1, r2, r3, r4) := by rw [if_neg (show ¬ (false = true) by decide)] at H; exact H
  clear H
  have H := H1
  clear H1
  by_cases c5 : t225 = true
  ·subst c5
   have H1 : (some (t223, s0_0, t224, false)) = some (r1, r2, r3, r4) := by rw [if_pos rfl] at H; exact H
   clear H
   have H := H1
   clear H1
   simp only [Option.some.injEq, Prod.mk.injEq] at H
   obtain ⟨rfl, rfl, rfl, rfl⟩ := H
   obtain ⟨HGz6, hgz6⟩ := HI0.out
   have hcz6_0 := cellS114_0 HGz6
   have hcz6_1 := cellS114_1 HGz6
   have hcz6_2 := cellS114_2 HGz6
   have hfz6_0 := blk_frozen HGz6 0
   have hfz6_1 := blk_frozen HGz6 1
   have hfz6_2 := blk_frozen HGz6 2
   clear HGz6 hgz6
   go_enter Try.func88, Try.ntmps88
   go_wp2_with (first | (go_at_call 134; (with_reducible refine (impl_ReadShort.calls k s0_0 s0_1 t223 t224 true _ A2.out).mono ?_); rintro e w' ⟨rfl, ⟨nd, rfl⟩⟩; (try first | exact ⟨rfl, _, World.drewN_drewN _ _ _⟩ | exact ⟨rfl, _, Eq.trans (World.drewN_drewN _ _ _) (congrArg (World.drewN _) (Nat.add_assoc _ _ _))⟩)))
   repeat (go_quiet (first | (go_at_call 134; (with_reducible refine (impl_ReadShort.calls k s0_0 s0_1 t223 t224 true _ A2.out).mono ?_); rintro e w' ⟨rfl, ⟨nd, rfl⟩⟩; (try first | exact ⟨rfl, _, World.drewN_drewN _ _ _⟩ | exact ⟨rfl, _, Eq.trans (World.drewN_drewN _ _ _) (congrArg (World.drewN _) (Nat.add_assoc _ _ _))⟩))); try go_wp2_with (first | (go_at_call 134; (with_reducible refine (impl_ReadShort.calls k s0_0 s0_1 t223 t224 true _ A2.out).mono ?_); rintro e w' ⟨rfl, ⟨nd, rfl⟩⟩; (try first | exact ⟨rfl, _, World.drewN_drewN _ _ _⟩ | exact ⟨rfl, _, Eq.trans (World.drewN_drewN _ _ _) (congrArg (World.drewN _) (Nat.add_assoc _ _ _))⟩))))
   go_ret
   exact ⟨by first | rfl | (simp [errW_none, errW_some] <;> rfl) | (simp [*, errW_none, errW_some] <;> rfl), by repeat (first | (with_reducible first | exact HI0.out | apply IsS114.alloc | apply IsS114.drewN | apply IsS114.drew | apply IsS114.set_0 | apply IsS114.set_1 | apply IsS114.set_2) | exact HI0.out), by repeat (first | (with_reducible first | exact HB.out | apply below_alloc | apply pw_below_drewN | apply below_drew1 | refine below_set ?_ (IsS114.ge HI0.out)) | exact HB.out), by repeat (first | (with_reducible first | exact HK.out | apply KeepBut.set_ | apply keep_drewN | apply keep_drew | apply keep_alloc) | exact HK.out)⟩
  ·replace c5 := Bool.eq_false_iff.mpr c5
   subst c5
   have H1 : (some ((⟨#[]⟩ : ByteArray), s0_0, s0_1, true)) = some (r1, r2, r3, r4) := by rw [if_neg (show ¬ (false = true) by decide)] at H; exact H
   clear H
   have H := H1
   clear H1
   simp only [Option.some.injEq, Prod.mk.injEq] at H
   obtain ⟨rfl, rfl, rfl, rfl⟩ := H
   obtain ⟨HGz7, hgz7⟩ := HI0.out
   have hcz7_0 := cellS114_0 HGz7
   have hcz7_1 := cellS114_1 HGz7
   have hcz7_2 := cellS114_2 HGz7
   have hfz7_0 := blk_frozen HGz7 0
   have hfz7_1 := blk_frozen HGz7 1
   have hfz7_2 := blk_frozen HGz7 2
   clear HGz7 hgz7
   go_enter Try.func88, Try.ntmps88
   go_wp2_with (first | (go_at_call 134; (with_reducible refine (impl_ReadShort.calls k s0_0 s0_1 t223 t224 false _ A2.out).mono ?_); rintro e w' ⟨rfl, ⟨nd, rfl⟩⟩; (try first | exact ⟨rfl, _, World.drewN_drewN _ _ _⟩ | exact ⟨rfl, _, Eq.trans (World.drewN_drewN _ _ _) (congrArg (World.drewN _) (Nat.add_assoc _ _ _))⟩)))
   repeat (go_quiet (first | (go_at_call 134; (with_reducible refine (impl_ReadShort.calls k s0_0 s0_1 t223 t224 false _ A2.out).mono ?_); rintro e w' ⟨rfl, ⟨nd, rfl⟩⟩; (try first | exact ⟨rfl, _, World.drewN_drewN _ _ _⟩ | exact ⟨rfl, _, Eq.trans (World.drewN_drewN _ _ _) (congrArg (World.drewN _) (Nat.add_assoc _ _ _))⟩))); try go_wp2_with (first | (go_at_call 134; (with_reducible refine (impl_ReadShort.calls k s0_0 s0_1 t223 t224 false _ A2.out).mono ?_); rintro e w' ⟨rfl, ⟨nd, rfl⟩⟩; (try first | exact ⟨rfl, _, World.drewN_drewN _ _ _⟩ | exact ⟨rfl, _, Eq.trans (World.drewN_drewN _ _ _) (congrArg (World.drewN _) (Nat.add_assoc _ _ _))⟩))))
   go_ret
   exact ⟨by first | rfl | (simp [errW_none, errW_some] <;> rfl) | (simp [*, errW_none, errW_some] <;> rfl), by repeat (first | (with_reducible first | exact HI0.out | apply IsS114.alloc | apply IsS114.drewN | apply IsS114.drew | apply IsS114.set_0 | apply IsS114.set_1 | apply IsS114.set_2) | exact HI0.out), by repeat (first | (with_reducible first | exact HB.out | apply below_alloc | apply pw_below_drewN | apply below_drew1 | refine below_set ?_ (IsS114.ge HI0.out)) | exact HB.out), by repeat (first | (with_reducible first | exact HK.out | apply KeepBut.set_ | apply keep_drewN | apply keep_drew | apply keep_alloc) | exact HK.out)⟩
def enc (n : Nat) : List Int := if h : n < 128 then [(n : Int)] else ((n % 128 + 128 : Nat) : Int) :: enc (n / 128)
termination_by n
decreasing_by omega
theorem enc_small {n : Nat} (h : n < 128) : enc n = [(n : Int)] := by rw [enc, dif_pos h]
theorem enc_great {n : Nat} (h : ¬ n < 128) : enc n = ((n % 128 + 128 : Nat) : Int) :: enc (n / 128) := by rw [enc, dif_neg h]
theorem enc_byte (n : Nat) : ∀ b ∈ enc n, 0 ≤ b ∧ b < 256 := by
 induction n using Nat.strongRecOn with
 | ind n ih =>
  intro b hb
  by_cases h : n < 128
  ·rw [enc_small h, List.mem_singleton] at hb
   subst hb
   omega
  ·rw [enc_great h, List.mem_cons] at hb
   rcases hb with rfl | hb
   ·omega
   ·exact ih (n / 128) (by omega) b hb
theorem enc_len (i : Nat) : ∀ n, n < 128 ^ (i + 1) → (enc n).length ≤ i + 1 := by
 induction i with
 | zero =>
  intro n hn
  rw [enc_small (by simpa using hn)]
  simp
 | succ i ih =>
  intro n hn
  by_cases h : n < 128
  ·rw [enc_small h]
   simp
  ·rw [enc_great h, List.length_cons]
   have := ih (n / 128) (by
    rw [Nat.div_lt_iff_lt_mul (by decide)]
    rwa [← Nat.pow_succ])
   omega
theorem enc_next {d x : Nat} (hd : d < 128) (hx : 1 ≤ x) : enc (d + 128 * x) = ((d + 128 : Nat) : Int) :: enc x := by
 rw [enc_great (by omega)]
 congr 1
 ·congr 1; omega
 ·congr 1; omega
def bytes (s : ByteArray) (a b : Nat) : List Int := (List.range (b - a)).map fun j => bt s ((a + j : Nat) : Int)
theorem bytes_len (s : ByteArray) (a b : Nat) : (bytes s a b).length = b - a := by simp [bytes]
theorem bytes_nil (s : ByteArray) (a : Nat) : bytes s a a = [] := by simp [bytes]
theorem bytes_snoc (s : ByteArray) {a b : Nat} (h : a ≤ b) : bytes s a (b + 1) = bytes s a b ++ [bt s (b : Int)] := by
 unfold bytes
 rw [show b + 1 - a = (b - a) + 1 by omega, List.range_succ, List.map_append, List.map_singleton, show a + (b - a) = b by omega]
theorem bytes_byte (s : ByteArray) (a b : Nat) : ∀ x ∈ bytes s a b, 0 ≤ x ∧ x < 256 := by
 intro x hx
 simp only [bytes, List.mem_map] at hx
 obtain ⟨j, _, rfl⟩ := hx
 have := bt_range s ((a + j : Nat) : Int)
 omega
theorem map_inj_byte {xs ys : List Int} (hx : ∀ x ∈ xs, 0 ≤ x ∧ x < 256) (hy : ∀ x ∈ ys, 0 ≤ x ∧ x < 256) (h : xs.map (fun n => UInt8.ofNat n.toNat) = ys.map (fun n => UInt8.ofNat n.toNat)) : xs = ys := by
 induction xs generalizing ys with
 | nil => simpa using h.symm
 | cons x xs ih =>
  cases ys with
  | nil => simp at h
  | cons y ys =>
   simp only [List.map_cons, List.cons.injEq] at h
   have h1 := hx x (by simp)
   have h2 := hy y (by simp)
   have h3 := congrArg UInt8.toNat h.1
   simp only [UInt8.toNat_ofNat'] at h3
   rw [ih (fun z hz => hx z (by simp [hz])) (fun z hz => hy z (by simp [hz])) h.2]
   congr 1
   omega
theorem bt_nat (s : ByteArray) (i : Nat) (h : i < s.size) : bt s (i : Int) = ((s.data[i]'h).toNat : Int) := by
 unfold bt
 rw [dif_pos (show ((i : Int)).toNat < s.size by rw [Int.toNat_natCast]; exact h)]
 simp only [Int.toNat_natCast]
 rfl
theorem extract_list (s : ByteArray) (a b : Nat) (hb : b ≤ s.size) : (s.extract a b).toList = (bytes s a b).map (fun n => UInt8.ofNat n.toNat) := by
 rw [Lib.toList_data]
 have hs : s.data.size = s.size := rfl
 apply List.ext_getElem
 ·rw [List.length_map, bytes_len, Array.length_toList, ByteArray.data_extract, Array.size_extract]
  omega
 ·intro i h1 h2
  have h3 : i < b - a := by rw [List.length_map, bytes_len] at h2; exact h2
  have h4 : a + i < s.size := by omega
  simp only [bytes, List.getElem_map, List.getElem_range, bt_nat s (a + i) h4, Int.toNat_natCast, UInt8.ofNat_toNat, Array.getElem_toList, ByteArray.data_extract, Array.getElem_extract]
theorem str_eq_iff (xs : List Int) (s : ByteArray) (a b : Nat) (hb : b ≤ s.size) (hx : ∀ x ∈ xs, 0 ≤ x ∧ x < 256) : (strOfNums xs).toList = (s.extract a b).toList ↔ xs = bytes s a b := by
 rw [extract_list s a b hb, Lib.strOfNums_toList]
 constructor
 ·intro h
  exact map_inj_byte hx (bytes_byte s a b) h
 ·rintro rfl
  rfl
theorem l01Var_ev : ∀ (i n : Nat) (acc : List Int), n < 128 ^ (i + 1) → acc.length + i < 140737488355328 → n < 4611686018427387904 → spec_l01Var.l0 (i + 1) (n : Int) acc = some (strOfNums (acc ++ enc n)) := by
 intro i
 induction i with
 | zero =>
  intro n acc hn hl hb
  have h : n < 128 := by simpa using hn
  simp only [spec_l01Var.l0]
  rw [if_neg (by omega), if_pos (by omega), enc_small h, show (n : Int) % 256 = n by omega]
 | succ i ih =>
  intro n acc hn hl hb
  by_cases h : n < 128
  ·simp only [spec_l01Var.l0]
   rw [if_neg (by omega), if_pos (by omega), enc_small h, show (n : Int) % 256 = n by omega]
  ·have hd : n / 128 < 128 ^ (i + 1) := by
    rw [Nat.div_lt_iff_lt_mul (by decide)]
    rwa [← Nat.pow_succ]
   have := ih (n / 128) (acc ++ [((n % 128 + 128 : Nat) : Int)]) hd (by simp; omega) (by omega)
   rw [spec_l01Var.l0, if_pos (by omega), if_pos (by omega), enc_great h]
   rw [show wrap64 (Int.tdiv (n : Int) 128) = ((n / 128 : Nat) : Int) by
    rw [Int.tdiv_eq_ediv_of_nonneg (by omega)]; unfold wrap64; omega]
   rw [show (wrap64 (Int.tmod (n : Int) 128 + 128)) % 256 = ((n % 128 + 128 : Nat) : Int) by
    rw [Int.tmod_eq_emod_of_nonneg (by omega)]; unfold wrap64; omega]
   rw [this]
   simp
theorem w64 {n : Int} (h0 : 0 ≤ n) (h1 : n < 9223372036854775808) : wrap64 n = n := by unfold wrap64; omega
theorem pow_le4 {i : Nat} (hi : i ≤ 4) : 128 ^ i ≤ 268435456 := by
 have : i = 0 ∨ i = 1 ∨ i = 2 ∨ i = 3 ∨ i = 4 := by omega
 rcases this with rfl | rfl | rfl | rfl | rfl <;> decide
theorem or_mul (N b i : Nat) (hb : b < 256) (hi : i ≤ 4) (hN : N < 128 ^ i) :
  Go.bits .or .i64 (N : Int) (shl .i64 (Go.bits .and .i64 (wrap64 (b : Int)) 127) (wrap64 (7 * (i : Int)))) = ((N + b % 128 * 128 ^ i : Nat) : Int) := by
 have hp := pow_le4 hi
 have h7 : wrap64 (7 * (i : Int)) = ((7 * i : Nat) : Int) := by rw [w64] <;> omega
 have hbw : wrap64 (b : Int) = (b : Int) := w64 (by omega) (by omega)
 have h128 : (2 : Nat) ^ (7 * i) = 128 ^ i := by rw [Nat.pow_mul]
 have hprod : b % 128 * 128 ^ i ≤ 127 * 268435456 := Nat.mul_le_mul (by omega) hp
 rw [h7, hbw, i64_and127]
 have hs : shl .i64 ((b : Int) % 128) ((7 * i : Nat) : Int) = ((2 ^ (7 * i) * (b % 128) : Nat) : Int) := by
  unfold shl
  rw [Int.toNat_natCast, show IntKind.i64.bits = 64 from rfl, Nat.min_eq_left (by omega), i64_w]
  have : ((b : Int) % 128) * 2 ^ (7 * i) = ((2 ^ (7 * i) * (b % 128) : Nat) : Int) := by
   rw [Int.mul_comm]
   simp
  rw [this, w64 (by omega)]
  rw [h128, Nat.mul_comm]
  omega
 rw [hs]
 have hk : ∀ n : Int, 0 ≤ n → n < 2 ^ 62 → IntKind.i64.wrap n = n := by
  intro n h0 h1
  rw [i64_w, w64 h0 (by omega)]
 have hN62 : N < 2 ^ 62 := by omega
 have hM62 : 2 ^ (7 * i) * (b % 128) < 2 ^ 62 := by rw [h128, Nat.mul_comm]; omega
 rw [(bits_nat .i64 62 (by decide) hk N _ hN62 hM62).2, Nat.or_comm, ← Nat.two_pow_add_eq_or_of_lt (by rw [h128]; exact hN), h128, Nat.mul_comm, Nat.add_comm]
theorem himpl1 (s : ByteArray) (at_ i N : Nat) (hs : s.size ≤ 140737488351232) (hi4 : i ≤ 4) (hlt : at_ + i < s.size) (k : Nat) (R) (hR : impl_ReadVar.j1 (k + 1) s at_ N i true = R) : impl_ReadVar.l0 (k + 2) s at_ N i = R := by
 have hat1 : wrap64 ((at_ : Int) + (i : Int)) = ((at_ + i : Nat) : Int) := by rw [w64 (by omega) (by omega)]; omega
 have h2 : ((at_ + i : Nat) : Int) < (s.size : Int) := by clear hat1; omega
 have h3 : (i : Int) < 5 := by clear hat1; omega
 rw [impl_ReadVar.l0, if_pos h3, hat1, decide_eq_true h2]
 exact hR
theorem himpl2 (s : ByteArray) (at_ i N b M : Nat) (hs : s.size ≤ 140737488351232) (hi4 : i ≤ 4) (hlt : at_ + i < s.size) (hb256 : b < 256) (hb : Aside0 (bt s ((at_ + i : Nat) : Int) = (b : Int))) (k : Nat)
  (hor : Aside0 (Go.bits .or .i64 (N : Int) (shl .i64 (Go.bits .and .i64 (wrap64 (b : Int)) 127) (wrap64 (7 * (i : Int)))) = (M : Int))) :
  impl_ReadVar.j1 (k + 1) s at_ N i true = if b > 127 then impl_ReadVar.l0 k s at_ (M : Int) ((i + 1 : Nat) : Int) else (if b = 0 ∧ i > 0 then some (0, 0, false) else if M > 1000000000 then some (0, 0, false) else some ((M : Int), ((at_ + i + 1 : Nat) : Int), true)) := by
 have g1 : (0 : Int) ≤ ((at_ + i : Nat) : Int) := by omega
 have g2 : ((at_ + i : Nat) : Int) < (s.size : Int) := by omega
 have e0 := Aside0.mk (show wrap64 ((at_ : Int) + (i : Int)) = ((at_ + i : Nat) : Int) by rw [w64 (by omega) (by omega)]; omega)
 have e1 := Aside0.mk (show wrap64 (b : Int) = (b : Int) from w64 (by omega) (by omega))
 have e2 := Aside0.mk (show wrap64 (((at_ + i : Nat) : Int) + 1) = ((at_ + i + 1 : Nat) : Int) by rw [w64 (by omega) (by omega)]; omega)
 have e3 := Aside0.mk (show wrap64 ((i : Int) + 1) = ((i + 1 : Nat) : Int) by rw [w64 (by omega) (by omega)]; omega)
 have e4 : 0 ≤ wrap64 (7 * (i : Int)) := by rw [w64 (by omega) (by omega)]; omega
 rw [impl_ReadVar.j1, if_pos rfl, e0.out, if_pos g1, if_pos g2, if_pos e4, hb.out, hor.out, e1.out, e2.out, e3.out]
 clear e0 e1 e2 e3 e4 hor hb
 generalize impl_ReadVar.l0 k s at_ (M : Int) ((i + 1 : Nat) : Int) = Z
 have a1 : (b : Int) > 127 ↔ b > 127 := by omega
 have a2 : (b : Int) = 0 ↔ b = 0 := by omega
 have a3 : (i : Int) > 0 ↔ i > 0 := by omega
 have a4 : (M : Int) > 1000000000 ↔ M > 1000000000 := by omega
 simp only [a1, a2, a3, a4]
 by_cases h2 : b = 0 <;> by_cases h3 : i > 0 <;> simp [h2, h3]
theorem hspec (s : ByteArray) (at_ i N b M : Nat) (P : Int) (hs : s.size ≤ 140737488351232) (hi4 : i ≤ 4) (hlt : at_ + i < s.size) (hb : Aside0 (bt s ((at_ + i : Nat) : Int) = (b : Int))) (k : Nat)
  (hsum : Aside0 (wrap64 ((N : Int) + wrap64 (Int.tmod (wrap64 (b : Int)) 128 * P)) = (M : Int))) :
  spec_ReadVar.l0 (k + 2) s at_ N P ((at_ + i : Nat) : Int) = if b < 128 then (if M > 1000000000 then some (0, 0, false) else (spec_l01Var.f k (M : Int)).bind fun t => if t.toList = (s.extract at_ (at_ + i + 1)).toList then some ((M : Int), ((at_ + i + 1 : Nat) : Int), true) else some (0, 0, false))
   else spec_ReadVar.l0 k s at_ (M : Int) (wrap64 (P * 128)) ((at_ + i + 1 : Nat) : Int) := by
 have g1 : (0 : Int) ≤ ((at_ + i : Nat) : Int) := by omega
 have g2 : ((at_ + i : Nat) : Int) < (s.size : Int) := by omega
 have g3 : (0 : Int) ≤ (at_ : Int) := by omega
 have g4 : (at_ : Int) ≤ ((at_ + i + 1 : Nat) : Int) := by omega
 have g5 : ((at_ + i + 1 : Nat) : Int) ≤ (s.size : Int) := by omega
 have e0 := Aside0.mk (show decide (((at_ + i : Nat) : Int) < wrap64 ((at_ : Int) + 5)) = true by rw [w64 (by omega) (by omega)]; exact decide_eq_true (by omega))
 have e2 := Aside0.mk (show wrap64 (((at_ + i : Nat) : Int) + 1) = ((at_ + i + 1 : Nat) : Int) by rw [w64 (by omega) (by omega)]; omega)
 rw [spec_ReadVar.l0, if_pos g2, e0.out, spec_ReadVar.j1, if_pos rfl, if_pos g1, if_pos g2, hb.out, hsum.out, e2.out]
 clear e0 e2 hsum hb
 rw [Int.toNat_natCast, Int.toNat_natCast]
 have a1 : (b : Int) < 128 ↔ b < 128 := by omega
 have a4 : (M : Int) > 1000000000 ↔ M > 1000000000 := by omega
 simp only [a1, a4, if_pos g3, if_pos g4, if_pos g5]
def Good (s : ByteArray) (at_ : Nat) (r : Int × Int × Bool) : Prop :=
 r = (0, 0, false) ∨ ∃ n next : Nat, r = ((n : Int), (next : Int), true) ∧ n ≤ 1000000000 ∧ at_ < next ∧ next ≤ s.size ∧ bytes s at_ next = enc n
theorem pow_succ_le {i : Nat} (hi : i ≤ 4) : 128 ^ (i + 1) ≤ 34359738368 := by
 have := pow_le4 hi
 rw [Nat.pow_succ]
 omega
theorem read_both (s : ByteArray) (hs : s.size ≤ 140737488351232) (at_ : Nat) : ∀ (d i N : Nat), i + d = 5 → N < 128 ^ i → (∀ x, 1 ≤ x → enc (N + 128 ^ i * x) = bytes s at_ (at_ + i) ++ enc x) → at_ + i ≤ s.size →
  ∃ r, impl_ReadVar.l0 (2 * d + 2) s at_ N i = some r ∧ spec_ReadVar.l0 (2 * d + 10) s at_ N ((128 ^ i : Nat) : Int) ((at_ + i : Nat) : Int) = some r ∧ Good s at_ r := by
 intro d
 induction d with
 | zero =>
  intro i N hi hN hP hle
  obtain rfl : i = 5 := by omega
  refine ⟨(0, 0, false), ?_, ?_, Or.inl rfl⟩
  ·rw [impl_ReadVar.l0, if_neg (by omega), impl_ReadVar.j1, if_neg (by simp)]
  ·have h5 : decide (((at_ + 5 : Nat) : Int) < wrap64 ((at_ : Int) + 5)) = false := by
    rw [w64 (by omega) (by omega)]
    exact decide_eq_false (by omega)
   rw [spec_ReadVar.l0, h5]
   split <;> rw [spec_ReadVar.j1, if_neg (by simp)]
 | succ d ih =>
  intro i N hi hN hP hle
  have hi4 : i ≤ 4 := by omega
  by_cases hlt : at_ + i < s.size
  ·obtain ⟨b, hb⟩ : ∃ b : Nat, bt s ((at_ + i : Nat) : Int) = (b : Int) := ⟨(bt s ((at_ + i : Nat) : Int)).toNat, by have := (bt_range s ((at_ + i : Nat) : Int)).1; exact (Int.toNat_of_nonneg this).symm⟩
   have hb256 : b < 256 := by have := (bt_range s ((at_ + i : Nat) : Int)).2; rw [hb] at this; omega
   have HB := Aside0.mk hb
   clear hb
   have hor := Aside0.mk (or_mul N b i hb256 hi4 hN)
   have hp := pow_le4 hi4
   have hprod : b % 128 * 128 ^ i ≤ 127 * 268435456 := Nat.mul_le_mul (by omega) hp
   have hprod2 : b % 128 * 128 ^ i ≤ 127 * 128 ^ i := Nat.mul_le_mul_right _ (by omega)
   have hsum : Aside0 (wrap64 ((N : Int) + wrap64 (Int.tmod (wrap64 (b : Int)) 128 * ((128 ^ i : Nat) : Int))) = ((N + b % 128 * 128 ^ i : Nat) : Int)) := by
    refine ⟨?_⟩
    rw [w64 (n := (b : Int)) (by omega) (by omega), Int.tmod_eq_emod_of_nonneg (by omega)]
    have : (b : Int) % 128 * ((128 ^ i : Nat) : Int) = ((b % 128 * 128 ^ i : Nat) : Int) := by simp
    rw [this, w64 (n := ((b % 128 * 128 ^ i : Nat) : Int)) (by omega) (by omega), w64 (by omega) (by omega)]
    omega
   have hNN : N + b % 128 * 128 ^ i < 128 ^ (i + 1) := by rw [Nat.pow_succ]; omega
   have hM : N + b % 128 * 128 ^ i < 34359738368 := Nat.lt_of_lt_of_le hNN (pow_succ_le hi4)
   have h1 := himpl2 s at_ i N b _ hs hi4 hlt hb256 HB (2 * d + 2) hor
   have h1 := himpl1 s at_ i N hs hi4 hlt (2 * d + 2) _ h1
   have h2 := hspec s at_ i N b _ _ hs hi4 hlt HB (2 * d + 10) hsum
   have hpow : wrap64 (((128 ^ i : Nat) : Int) * 128) = ((128 ^ (i + 1) : Nat) : Int) := by
    have : ((128 ^ i : Nat) : Int) * 128 = ((128 ^ (i + 1) : Nat) : Int) := by rw [Nat.pow_succ]; simp
    rw [this, w64 (by omega)]
    have := pow_succ_le hi4
    omega
   rw [hpow] at h2
   have hd1 : 2 * (d + 1) + 2 = 2 * d + 2 + 2 := by omega
   have hd2 : 2 * (d + 1) + 10 = 2 * d + 10 + 2 := by omega
   rw [hd1, hd2]
   clear hsum hor hpow hd1 hd2
   by_cases hcont : b > 127
   ·rw [if_pos hcont] at h1
    rw [if_neg (show ¬ b < 128 by omega)] at h2
    obtain ⟨r, hr1, hr2, hr3⟩ := ih (i + 1) (N + b % 128 * 128 ^ i) (by omega) hNN (by
     intro x hx
     have h3 := hP (b % 128 + 128 * x) (by omega)
     rw [enc_next (by omega) hx] at h3
     have h4 : N + b % 128 * 128 ^ i + 128 ^ (i + 1) * x = N + 128 ^ i * (b % 128 + 128 * x) := by
      rw [Nat.pow_succ, Nat.mul_add, Nat.mul_comm (b % 128), Nat.mul_assoc]
      omega
     rw [h4, h3, ← Nat.add_assoc, bytes_snoc s (by omega), HB.out, List.append_assoc]
     congr 2
     omega) (by omega)
    exact ⟨r, h1.trans hr1, h2.trans hr2, hr3⟩
   ·rw [if_neg hcont] at h1
    rw [if_pos (show b < 128 by omega)] at h2
    have hbm : b % 128 = b := Nat.mod_eq_of_lt (by omega)
    rw [hbm] at h1 h2 hNN hM
    generalize hMd : N + b * 128 ^ i = M at h1 h2 hNN hM
    by_cases hbig : M > 1000000000
    ·rw [if_pos hbig] at h2
     refine ⟨(0, 0, false), ?_, h2, Or.inl rfl⟩
     rw [h1]
     by_cases hz : b = 0 ∧ i > 0
     ·rw [if_pos hz]
     ·rw [if_neg hz, if_pos hbig]
    ·rw [if_neg hbig] at h2
     have hev := l01Var_ev (2 * d + 9) M [] (Nat.lt_of_lt_of_le hNN (Nat.pow_le_pow_right (by decide) (by omega))) (by simp; omega) (by omega)
     have hev' : spec_l01Var.f (2 * d + 10) (M : Int) = some (strOfNums (enc M)) := hev
     rw [hev', Option.bind_some] at h2
     have hiff := str_eq_iff (enc M) s at_ (at_ + i + 1) (by omega) (enc_byte M)
     by_cases hz : b = 0 ∧ i > 0
     ·rw [if_pos hz] at h1
      have hne : ¬ (strOfNums (enc M)).toList = (s.extract at_ (at_ + i + 1)).toList := by
       rw [hiff]
       intro h
       have hl := congrArg List.length h
       rw [bytes_len] at hl
       obtain ⟨i', rfl⟩ : ∃ i', i = i' + 1 := ⟨i - 1, by omega⟩
       have : M = N := by rw [← hMd, hz.1]; simp
       have := enc_len i' M (by rw [this]; exact hN)
       omega
      rw [if_neg hne] at h2
      exact ⟨_, h1, h2, Or.inl rfl⟩
     ·rw [if_neg hz, if_neg hbig] at h1
      have heq : enc M = bytes s at_ (at_ + i + 1) := by
       rw [bytes_snoc s (by omega), HB.out]
       by_cases hb0 : b = 0
       ·have hi0 : i = 0 := by omega
        subst hi0
        have : N = 0 := by simpa using hN
        subst this
        subst hb0
        subst hMd
        show enc 0 = bytes s at_ at_ ++ [((0 : Nat) : Int)]
        rw [bytes_nil, enc_small (by decide)]
        rfl
       ·have := hP b (by omega)
        rw [enc_small (show b < 128 by omega)] at this
        rw [← this, ← hMd, Nat.mul_comm]
      rw [if_pos (hiff.2 heq)] at h2
      exact ⟨_, h1, h2, Or.inr ⟨M, at_ + i + 1, rfl, by omega, by omega, by omega, heq.symm⟩⟩
  ·refine ⟨(0, 0, false), ?_, ?_, Or.inl rfl⟩
   ·have h5 : decide (wrap64 ((at_ : Int) + (i : Int)) < (s.size : Int)) = false := by
     rw [w64 (by omega) (by omega)]
     exact decide_eq_false (by omega)
    have h6 : (i : Int) < 5 := by omega
    rw [show 2 * (d + 1) + 2 = 2 * d + 2 + 2 by omega, impl_ReadVar.l0, if_pos h6, h5, impl_ReadVar.j1, if_neg (by simp)]
   ·rw [show 2 * (d + 1) + 10 = 2 * d + 10 + 2 by omega, spec_ReadVar.l0, if_neg (by omega), spec_ReadVar.j1, if_neg (by simp)]
def rvar (s : ByteArray) (at_ : Int) : Int × Int × Bool := (impl_ReadVar.f 20 s at_).getD (0, 0, false)
theorem rvar_all (s : ByteArray) (hs : s.size ≤ 140737488351232) (at_ : Int) :
  impl_ReadVar.f 12 s at_ = some (rvar s at_) ∧ spec_ReadVar.f 20 s at_ = some (rvar s at_) ∧ impl_ReadVar.f 20 s at_ = some (rvar s at_) ∧ (rvar s at_ = (0, 0, false) ∨ ∃ a n next : Nat, at_ = (a : Int) ∧ rvar s at_ = ((n : Int), (next : Int), true) ∧ n ≤ 1000000000 ∧ a < next ∧ next ≤ s.size ∧ bytes s a next = enc n) := by
 by_cases h : 0 ≤ at_ ∧ at_ ≤ (s.size : Int)
 ·obtain ⟨a, rfl⟩ := Int.eq_ofNat_of_zero_le h.1
  obtain ⟨r, h1, h2, h3⟩ := read_both s hs a 5 0 0 rfl (by decide) (fun x hx => by simp [bytes_nil]) (by omega)
  rw [show 2 * 5 + 2 = 12 by decide, show ((0 : Nat) : Int) = 0 by rfl] at h1
  rw [show 2 * 5 + 10 = 20 by decide, show ((0 : Nat) : Int) = 0 by rfl, show ((128 ^ 0 : Nat) : Int) = 1 by rfl, Nat.add_zero] at h2
  have e1 : impl_ReadVar.f 12 s (a : Int) = some r := by
   unfold impl_ReadVar.f impl_in.f
   rw [if_pos h.1, decide_eq_true h.2, Option.bind_some, if_pos rfl]
   exact h1
  have e1' : impl_ReadVar.f 20 s (a : Int) = some r := by
   have := impl_ReadVar.mono s (a : Int)
   have hm : ∀ k, impl_ReadVar.f 12 s (a : Int) = some r → impl_ReadVar.f (12 + k) s (a : Int) = some r := by
    intro k hk
    induction k with
    | zero => exact hk
    | succ k ih => exact this _ _ ih
   exact hm 8 e1
  have e2 : spec_ReadVar.f 20 s (a : Int) = some r := by
   unfold spec_ReadVar.f spec_l01In.f
   rw [if_pos h.1, decide_eq_true h.2, Option.bind_some, if_pos rfl]
   exact h2
  have e3 : rvar s (a : Int) = r := by unfold rvar; rw [e1']; rfl
  rw [e3]
  refine ⟨e1, e2, e1', ?_⟩
  rcases h3 with h3 | ⟨n, next, h4, h5, h6, h7, h8⟩
  ·exact .inl h3
  ·exact .inr ⟨a, n, next, rfl, h4, h5, h6, h7, h8⟩
 ·have hin : ∀ k, impl_ReadVar.f k s at_ = some (0, 0, false) := by
   intro k
   unfold impl_ReadVar.f impl_in.f
   by_cases h1 : at_ ≥ 0
   ·rw [if_pos h1, decide_eq_false (by omega)]
    rfl
   ·rw [if_neg h1]
    rfl
  have e3 : rvar s at_ = (0, 0, false) := by unfold rvar; rw [hin]; rfl
  rw [e3]
  refine ⟨hin _, ?_, hin _, .inl rfl⟩
  unfold spec_ReadVar.f spec_l01In.f
  by_cases h1 : at_ ≥ 0
  ·rw [if_pos h1, decide_eq_false (by omega)]
   rfl
  ·rw [if_neg h1]
   rfl
def idxF {α : Type} (p : α → Bool) (xs : List α) : Int := if xs.any p then (xs.findIdx p : Int) else -1
theorem idxF_hit {α : Type} {p : α → Bool} {xs : List α} {k : Nat} (hk : k < xs.length) (h : p xs[k] = true) (hb : ∀ j (hj : j < xs.length), j < k → p xs[j] = false) : idxF p xs = (k : Int) := by
 unfold idxF
 rw [if_pos (List.any_eq_true.2 ⟨xs[k], List.getElem_mem hk, h⟩), (List.findIdx_eq hk).2 ⟨h, fun j hj => hb j (by omega) hj⟩]
theorem idxF_miss {α : Type} {p : α → Bool} {xs : List α} (hb : ∀ j (hj : j < xs.length), p xs[j] = false) : idxF p xs = -1 := by
 unfold idxF
 rw [if_neg (fun h => by
  obtain ⟨x, hx, hp⟩ := List.any_eq_true.1 h
  obtain ⟨j, hj, rfl⟩ := List.getElem_of_mem hx
  rw [hb j hj] at hp
  cases hp)]
theorem idxF_any {α : Type} (p : α → Bool) (xs : List α) : decide (0 ≤ idxF p xs) = xs.any p := by
 unfold idxF
 cases h : xs.any p
 ·rfl
 ·simp
theorem rdOf_at {α : Type} (d : α) (xs : List α) (k : Nat) (hk : k < xs.length) : rdOf d xs (k : Int) = xs[k] := by
 simp [rdOf, List.getD_eq_getElem?_getD, List.getElem?_eq_getElem hk]
def PredB {α : Type} (g : Nat) (lb : Array Value) (enc : α → Value) (p : α → Bool) (w : World) : Prop :=
 ∀ (W : World) (x : α), Below w.heap.size w W → Calls Try.prog g (#[enc x] ++ lb) W fun e w' => e = .returned (.bool (p x)) ∧ Below w.heap.size w w'
theorem IndexFunc_string (g : Nat) (lb : Array Value) (p : ByteArray → Bool) (eg : ∀ args w, (callFunc g args).run Try.prog w = .ok (.enter g args) w) (A : Option Addr) (c : Nat) (xs : List ByteArray) (w : World)
  (hr : Kd.C Kd.string w A xs.length xs) (hp : PredB g lb Value.string p w) :
  Calls Try.prog 157 #[.slice A xs.length c, .func (.func g) #[] lb] w fun e w' => e = .returned (.int .i64 (idxF p xs)) ∧ Below w.heap.size w w' := by
 have HR := Aside0.mk hr
 have HP := Aside0.mk hp
 have hbig := hr.2.1
 clear hr hp
 go_enter Try.func157, Try.ntmps157
 go_wp2
 go_loopg [5, 8] xs.length (fun gg _ s8 wr => ∃ kk : Nat, kk ≤ xs.length ∧ xs.length - kk ≤ gg ∧ s8 = .int .i64 kk ∧ Aside0 (Below w.heap.size w wr) ∧ Aside0 (∀ j (hj : j < xs.length), j < kk → p xs[j] = false))
 case atStart => exact ⟨0, Nat.zero_le _, by omega, rfl, ⟨Below.refl _ w⟩, ⟨fun j hj h => absurd h (Nat.not_lt_zero _)⟩⟩
 case round =>
  obtain ⟨kk, hkk, hg, rfl, BW, A0⟩ := hrel
  by_cases hlt : kk < xs.length
  ·have hltz : (kk : Int) < (xs.length : Int) := by omega
   obtain ⟨ad, rfl, hcell⟩ := Kd.at_string (Kd.C_below HR.out BW.out) (kk : Int) (by omega) hltz
   rw [rdOf_at _ _ _ hlt, Int.toNat_natCast] at hcell
   have hcall := HP.out wr xs[kk] BW.out
   obtain ⟨y, hy⟩ : ∃ y, xs[kk] = y := ⟨_, rfl⟩
   rw [hy] at hcell hcall
   have B := Aside0.mk hy
   clear hy
   cases hq : p y with
   | true =>
    rw [hq] at hcall
    go_wp2_with fail
    ((with_reducible refine hcall.mono ?_); rintro e w' ⟨rfl, hb'⟩)
    go_wp2
    go_ret
    refine ⟨?_, hb'⟩
    rw [idxF_hit hlt (by rw [B.out]; exact hq) A0.out]
    rfl
   | false =>
    rw [hq] at hcall
    go_wp2_with fail
    ((with_reducible refine hcall.mono ?_); rintro e w' ⟨rfl, hb'⟩)
    go_wp2
    go_roundg (xs.length - (kk + 1))
    case measure => omega
    case rel =>
     have hw : wrap64 ((kk : Int) + 1) = ((kk + 1 : Nat) : Int) := by unfold wrap64; omega
     refine ⟨kk + 1, by omega, by omega, by first | rfl | exact congrArg (Value.int .i64) hw, ⟨hb'⟩, ⟨fun j hj hjk => ?_⟩⟩
     by_cases e : j = kk
     ·subst e
      rw [B.out]; exact hq
     ·exact A0.out j hj (by omega)
  ·have hltz : ¬ (kk : Int) < (xs.length : Int) := by omega
   have : kk = xs.length := by omega
   subst this
   go_wp2
   go_ret
   refine ⟨?_, BW.out⟩
   rw [idxF_miss (fun j hj => A0.out j hj hj)]
   rfl
theorem ContainsFunc_string (g : Nat) (lb : Array Value) (p : ByteArray → Bool) (eg : ∀ args w, (callFunc g args).run Try.prog w = .ok (.enter g args) w) (A : Option Addr) (c : Nat) (xs : List ByteArray) (w : World)
  (hr : Kd.C Kd.string w A xs.length xs) (hp : PredB g lb Value.string p w) :
  Calls Try.prog 135 #[.slice A xs.length c, .func (.func g) #[] lb] w fun e w' => e = .returned (.bool (xs.any p)) ∧ Below w.heap.size w w' := by
 rw [← idxF_any]
 have HI := Aside0.mk (IndexFunc_string g lb p eg A c xs w hr hp)
 clear hr hp
 generalize idxF p xs = r at HI ⊢
 go_enter Try.func135, Try.ntmps135
 go_wp2_with fail
 ((with_reducible refine HI.out.mono ?_); rintro e w' ⟨rfl, hb'⟩)
 go_wp2
 go_ret
 exact ⟨rfl, hb'⟩
theorem pred136 (most : Int) (B : Nat) (w : World) (hB : B < w.heap.size) (hcell : w.cell? ⟨B, 0, none⟩ = some (.int .i64 most)) :
  PredB 136 #[.pointer (some ⟨B, 0, none⟩)] Value.string (fun s => decide ((s.size : Int) > most)) w := fun W x hb => by
 have hc : W.cell? ⟨B, 0, none⟩ = some (.int .i64 most) := (hb.cell (p := ⟨B, 0, none⟩) hB).trans hcell
 show Calls Try.prog 136 #[.string x, .pointer (some ⟨B, 0, none⟩)] W _
 go_enter Try.func136, Try.ntmps136
 go_wp2
 all_goals (go_ret; exact ⟨by simp_all, hb⟩)
theorem enters136 : ∀ args w, (callFunc 136 args).run Try.prog w = .ok (.enter 136 args) w := enters_of Try.func136 (by kernel_rfl) rfl
def impl_longer.f (l0 : List ByteArray) (a1 : Int) : Option Bool := some (l0.any fun s => decide ((s.size : Int) > a1))
theorem impl_longer.calls (A0 : Option Addr) (c0 : Nat) (l0 : List ByteArray) (a1 : Int) (r : Bool) (w : World) (hr0 : Kd.C Kd.string w A0 l0.length l0) (hc0 : l0.length ≤ c0) (h : impl_longer.f l0 a1 = some r) :
  Calls Try.prog 90 #[.slice A0 l0.length c0, .int .i64 a1] w fun e w' => e = .returned (.bool r) ∧ Below w.heap.size w w' := by
 obtain rfl := Option.some.inj h
 have HI := Aside0.mk (ContainsFunc_string 136 #[.pointer (some ⟨w.heap.size, 0, none⟩)] _ enters136 A0 c0 l0 (w.alloc (.cells #[.int .i64 a1] 3)) (Kd.C_below hr0 (below_alloc (Below.refl _ _) _)) (pred136 a1 w.heap.size _ (by simp) (by simp)))
 clear h hr0 hc0
 generalize (l0.any fun s => decide ((s.size : Int) > a1)) = r at HI ⊢
 go_enter Try.func90, Try.ntmps90
 go_wp2_with fail
 ((with_reducible refine HI.out.mono ?_); rintro e w' ⟨rfl, hb'⟩)
 go_wp2
 go_ret
 exact ⟨rfl, below_step (below_alloc (Below.refl w.heap.size w) _) hb'⟩
theorem bcell {W w1 : World} (hb : Below W.heap.size W w1) : (∀ b o, b < W.heap.size → w1.cell? ⟨b, o, none⟩ = W.cell? ⟨b, o, none⟩) ∧ (∀ b o, b < W.heap.size → w1.frozen? ⟨b, o, none⟩ = W.frozen? ⟨b, o, none⟩) :=
 ⟨fun b o h => hb.cell (p := ⟨b, o, none⟩) h, fun b o h => hb.frozen (p := ⟨b, o, none⟩) h⟩
def BranchOk (keys vals : List ByteArray) (kids : List Int) : Prop := kids.length = keys.length ∧ vals.length = 0 ∧ ∀ i (h : i < kids.length), 2 ≤ kids[i] ∧ kids[i] ≤ 39 ∧ (kids.take i).contains kids[i] = false
theorem index_ev (l : List Int) (x : Int) (hbig : l.length ≤ 9223372036854775807) : ∀ (d i : Nat), i + d = l.length → (∀ j (h : j < l.length), j < i → l[j] ≠ x) →
  ∃ r : Int, slices_Index_int_int.l0 (d + 1) l x (l.length : Int) (i : Int) = some r ∧ (l.contains x = decide (r ≥ 0)) := by
 intro d
 induction d with
 | zero =>
  intro i hi hb
  refine ⟨-1, ?_, ?_⟩
  ·simp only [slices_Index_int_int.l0]
   rw [if_neg (by omega)]
  ·rw [show decide ((-1 : Int) ≥ 0) = false from rfl]
   rw [Bool.eq_false_iff]
   intro h
   rw [List.contains_iff_mem] at h
   obtain ⟨j, hj, rfl⟩ := List.getElem_of_mem h
   exact hb j hj (by omega) rfl
 | succ d ih =>
  intro i hi hb
  have hlt : i < l.length := by omega
  have hrd : rd l (i : Int) = l[i] := by simp [rd, List.getD_eq_getElem?_getD, List.getElem?_eq_getElem hlt]
  by_cases hx : x = l[i]
  ·refine ⟨i, ?_, ?_⟩
   ·simp only [slices_Index_int_int.l0]
    rw [if_pos (by omega), if_pos (by omega), if_pos (by omega), hrd, if_pos hx]
   ·rw [decide_eq_true (show (i : Int) ≥ 0 by omega), List.contains_iff_mem, hx]
    exact List.getElem_mem hlt
  ·obtain ⟨r, hr, hc⟩ := ih (i + 1) (by omega) (fun j hj hji => by
    by_cases e : j = i
    ·subst e; exact fun h => hx h.symm
    ·exact hb j hj (by omega))
   refine ⟨r, ?_, hc⟩
   simp only [slices_Index_int_int.l0]
   rw [if_pos (by omega), if_pos (by omega), if_pos (by omega), hrd, if_neg hx, show wrap64 ((i : Int) + 1) = ((i + 1 : Nat) : Int) by unfold wrap64; omega]
   exact hr
theorem contains_ev (l : List Int) (x : Int) (b : Bool) (h : l.contains x = b) (hbig : l.length ≤ 9223372036854775807) : ∃ k, slices_Contains_int_int.f k l x = some b := by
 obtain ⟨r, hr, hc⟩ := index_ev l x hbig l.length 0 (by omega) (fun j hj h => absurd h (Nat.not_lt_zero _))
 refine ⟨l.length + 1, ?_⟩
 unfold slices_Contains_int_int.f slices_Index_int_int.f
 have hr' : slices_Index_int_int.l0 (l.length + 1) l x (l.length : Int) 0 = some r := hr
 rw [hr', Option.bind_some, ← hc, h]
theorem nodeOk_in (leaf : Bool) (A1 : Option Addr) (c1 : Nat) (keys : List ByteArray) (A2 : Option Addr) (c2 : Nat) (vals : List ByteArray) (A3 : Option Addr) (c3 : Nat) (kids : List Int) (w : World) (hr1 : Kd.C Kd.string w A1 keys.length keys) (hc1 : keys.length ≤ c1) (hr2 : Kd.C Kd.string w A2 vals.length vals) (hc2 : vals.length ≤ c2) (hr3 : Kd.C (Kd.int .i64) w A3 kids.length kids) (hc3 : kids.length ≤ c3) (hi : impl_in.f (keys.length : Int) 1 4 = some false) :
  Calls Try.prog 32 #[.agg #[.bool leaf, .slice A1 keys.length c1, .slice A2 vals.length c2, .slice A3 kids.length c3]] w fun e w' => e = .returned (.bool false) ∧ Below w.heap.size w w' := by
 have HR1 := Aside0.mk hr1
 have HR2 := Aside0.mk hr2
 have HR3 := Aside0.mk hr3
 have HC1 := Aside0.mk hc1
 have HC2 := Aside0.mk hc2
 have HC3 := Aside0.mk hc3
 clear hr1 hr2 hr3 hc1 hc2 hc3
 have HI := Aside0.mk hi
 clear hi
 go_enter Try.func32, Try.ntmps32
 go_wp2_with fail
 ((with_reducible refine (impl_in.calls (keys.length : Int) 1 4 false _ HI.out).mono ?_); rintro e w1 ⟨rfl, nd1, rfl⟩)
 have HB1 := Aside0.mk (show Below w.heap.size w _ from pw_below_drewN (below_alloc (Below.refl w.heap.size w) (.cells #[.bool leaf, .slice A1 keys.length c1, .slice A2 vals.length c2, .slice A3 kids.length c3] 68)) nd1)
 have BK1 := Aside0.mk (blk_drewN (blk_new w (.cells #[.bool leaf, .slice A1 keys.length c1, .slice A2 vals.length c2, .slice A3 kids.length c3] 68)) nd1)
 go_wp2
 go_ret
 exact ⟨rfl, HB1.out⟩
theorem nodeOk_asc (leaf : Bool) (A1 : Option Addr) (c1 : Nat) (keys : List ByteArray) (A2 : Option Addr) (c2 : Nat) (vals : List ByteArray) (A3 : Option Addr) (c3 : Nat) (kids : List Int) (w : World) (hr1 : Kd.C Kd.string w A1 keys.length keys) (hc1 : keys.length ≤ c1) (hr2 : Kd.C Kd.string w A2 vals.length vals) (hc2 : vals.length ≤ c2) (hr3 : Kd.C (Kd.int .i64) w A3 kids.length kids) (hc3 : kids.length ≤ c3) (hi : impl_in.f (keys.length : Int) 1 4 = some true) (ha : impl_ascending.f keys = some false) :
  Calls Try.prog 32 #[.agg #[.bool leaf, .slice A1 keys.length c1, .slice A2 vals.length c2, .slice A3 kids.length c3]] w fun e w' => e = .returned (.bool false) ∧ Below w.heap.size w w' := by
 have HR1 := Aside0.mk hr1
 have HR2 := Aside0.mk hr2
 have HR3 := Aside0.mk hr3
 have HC1 := Aside0.mk hc1
 have HC2 := Aside0.mk hc2
 have HC3 := Aside0.mk hc3
 clear hr1 hr2 hr3 hc1 hc2 hc3
 have HI := Aside0.mk hi
 have HA := Aside0.mk ha
 clear hi ha
 go_enter Try.func32, Try.ntmps32
 go_wp2_with fail
 ((with_reducible refine (impl_in.calls (keys.length : Int) 1 4 true _ HI.out).mono ?_); rintro e w1 ⟨rfl, nd1, rfl⟩)
 have HB1 := Aside0.mk (show Below w.heap.size w _ from pw_below_drewN (below_alloc (Below.refl w.heap.size w) (.cells #[.bool leaf, .slice A1 keys.length c1, .slice A2 vals.length c2, .slice A3 kids.length c3] 68)) nd1)
 have BK1 := Aside0.mk (blk_drewN (blk_new w (.cells #[.bool leaf, .slice A1 keys.length c1, .slice A2 vals.length c2, .slice A3 kids.length c3] 68)) nd1)
 go_wp2_with fail
 ((with_reducible refine (impl_ascending.calls A1 c1 keys false _ (Kd.C_below HR1.out HB1.out) HC1.out HA.out).mono ?_); rintro e w2 ⟨rfl, hb2⟩)
 obtain ⟨hcell2, hfr2⟩ := bcell hb2
 have hz2 : w.heap.size < w2.heap.size := by have hh := hb2.size; (try simp at hh); omega
 have HB2 := Aside0.mk (below_step HB1.out hb2)
 have BK2 := Aside0.mk (blk_below BK1.out hb2)
 clear hb2
 go_wp2
 go_ret
 exact ⟨rfl, HB2.out⟩
theorem nodeOk_lng (leaf : Bool) (A1 : Option Addr) (c1 : Nat) (keys : List ByteArray) (A2 : Option Addr) (c2 : Nat) (vals : List ByteArray) (A3 : Option Addr) (c3 : Nat) (kids : List Int) (w : World) (hr1 : Kd.C Kd.string w A1 keys.length keys) (hc1 : keys.length ≤ c1) (hr2 : Kd.C Kd.string w A2 vals.length vals) (hc2 : vals.length ≤ c2) (hr3 : Kd.C (Kd.int .i64) w A3 kids.length kids) (hc3 : kids.length ≤ c3) (hi : impl_in.f (keys.length : Int) 1 4 = some true) (ha : impl_ascending.f keys = some true) (hl : impl_longer.f keys 24 = some true) :
  Calls Try.prog 32 #[.agg #[.bool leaf, .slice A1 keys.length c1, .slice A2 vals.length c2, .slice A3 kids.length c3]] w fun e w' => e = .returned (.bool false) ∧ Below w.heap.size w w' := by
 have HR1 := Aside0.mk hr1
 have HR2 := Aside0.mk hr2
 have HR3 := Aside0.mk hr3
 have HC1 := Aside0.mk hc1
 have HC2 := Aside0.mk hc2
 have HC3 := Aside0.mk hc3
 clear hr1 hr2 hr3 hc1 hc2 hc3
 have HI := Aside0.mk hi
 have HA := Aside0.mk ha
 have HL := Aside0.mk hl
 clear hi ha hl
 go_enter Try.func32, Try.ntmps32
 go_wp2_with fail
 ((with_reducible refine (impl_in.calls (keys.length : Int) 1 4 true _ HI.out).mono ?_); rintro e w1 ⟨rfl, nd1, rfl⟩)
 have HB1 := Aside0.mk (show Below w.heap.size w _ from pw_below_drewN (below_alloc (Below.refl w.heap.size w) (.cells #[.bool leaf, .slice A1 keys.length c1, .slice A2 vals.length c2, .slice A3 kids.length c3] 68)) nd1)
 have BK1 := Aside0.mk (blk_drewN (blk_new w (.cells #[.bool leaf, .slice A1 keys.length c1, .slice A2 vals.length c2, .slice A3 kids.length c3] 68)) nd1)
 go_wp2_with fail
 ((with_reducible refine (impl_ascending.calls A1 c1 keys true _ (Kd.C_below HR1.out HB1.out) HC1.out HA.out).mono ?_); rintro e w2 ⟨rfl, hb2⟩)
 obtain ⟨hcell2, hfr2⟩ := bcell hb2
 have hz2 : w.heap.size < w2.heap.size := by have hh := hb2.size; (try simp at hh); omega
 have HB2 := Aside0.mk (below_step HB1.out hb2)
 have BK2 := Aside0.mk (blk_below BK1.out hb2)
 clear hb2
 go_wp2_with fail
 ((with_reducible refine (impl_longer.calls A1 c1 keys 24 true _ (Kd.C_below HR1.out HB2.out) HC1.out HL.out).mono ?_); rintro e w3 ⟨rfl, hb3⟩)
 obtain ⟨hcell3, hfr3⟩ := bcell hb3
 have hz3 : w.heap.size < w3.heap.size := by have hh := hb3.size; (try simp at hh); omega
 have HB3 := Aside0.mk (below_step HB2.out hb3)
 have BK3 := Aside0.mk (blk_below BK2.out hb3)
 clear hb3
 go_wp2
 go_ret
 exact ⟨rfl, HB3.out⟩
theorem nodeOk_leaf_len (leaf : Bool) (A1 : Option Addr) (c1 : Nat) (keys : List ByteArray) (A2 : Option Addr) (c2 : Nat) (vals : List ByteArray) (A3 : Option Addr) (c3 : Nat) (kids : List Int) (w : World) (hr1 : Kd.C Kd.string w A1 keys.length keys) (hc1 : keys.length ≤ c1) (hr2 : Kd.C Kd.string w A2 vals.length vals) (hc2 : vals.length ≤ c2) (hr3 : Kd.C (Kd.int .i64) w A3 kids.length kids) (hc3 : kids.length ≤ c3) (hi : impl_in.f (keys.length : Int) 1 4 = some true) (ha : impl_ascending.f keys = some true) (hl : impl_longer.f keys 24 = some false) (hn : ¬ vals.length = keys.length) :
  Calls Try.prog 32 #[.agg #[.bool true, .slice A1 keys.length c1, .slice A2 vals.length c2, .slice A3 kids.length c3]] w fun e w' => e = .returned (.bool false) ∧ Below w.heap.size w w' := by
 have HR1 := Aside0.mk hr1
 have HR2 := Aside0.mk hr2
 have HR3 := Aside0.mk hr3
 have HC1 := Aside0.mk hc1
 have HC2 := Aside0.mk hc2
 have HC3 := Aside0.mk hc3
 clear hr1 hr2 hr3 hc1 hc2 hc3
 have HI := Aside0.mk hi
 have HA := Aside0.mk ha
 have HL := Aside0.mk hl
 clear hi ha hl
 have hnz : ¬ ((vals.length : Int) = (keys.length : Int)) := by omega
 have hnd : decide ((vals.length : Int) = (keys.length : Int)) = false := decide_eq_false hnz
 have hnb : ((vals.length : Int) == (keys.length : Int)) = false := beq_eq_false_iff_ne.2 hnz
 go_enter Try.func32, Try.ntmps32
 go_wp2_with fail
 ((with_reducible refine (impl_in.calls (keys.length : Int) 1 4 true _ HI.out).mono ?_); rintro e w1 ⟨rfl, nd1, rfl⟩)
 have HB1 := Aside0.mk (show Below w.heap.size w _ from pw_below_drewN (below_alloc (Below.refl w.heap.size w) (.cells #[.bool true, .slice A1 keys.length c1, .slice A2 vals.length c2, .slice A3 kids.length c3] 68)) nd1)
 have BK1 := Aside0.mk (blk_drewN (blk_new w (.cells #[.bool true, .slice A1 keys.length c1, .slice A2 vals.length c2, .slice A3 kids.length c3] 68)) nd1)
 go_wp2_with fail
 ((with_reducible refine (impl_ascending.calls A1 c1 keys true _ (Kd.C_below HR1.out HB1.out) HC1.out HA.out).mono ?_); rintro e w2 ⟨rfl, hb2⟩)
 obtain ⟨hcell2, hfr2⟩ := bcell hb2
 have hz2 : w.heap.size < w2.heap.size := by have hh := hb2.size; (try simp at hh); omega
 have HB2 := Aside0.mk (below_step HB1.out hb2)
 have BK2 := Aside0.mk (blk_below BK1.out hb2)
 clear hb2
 go_wp2_with fail
 ((with_reducible refine (impl_longer.calls A1 c1 keys 24 false _ (Kd.C_below HR1.out HB2.out) HC1.out HL.out).mono ?_); rintro e w3 ⟨rfl, hb3⟩)
 obtain ⟨hcell3, hfr3⟩ := bcell hb3
 have hz3 : w.heap.size < w3.heap.size := by have hh := hb3.size; (try simp at hh); omega
 have HB3 := Aside0.mk (below_step HB2.out hb3)
 have BK3 := Aside0.mk (blk_below BK2.out hb3)
 clear hb3
 go_wp2
 go_ret
 exact ⟨rfl, HB3.out⟩
theorem nodeOk_leaf_lng (leaf : Bool) (A1 : Option Addr) (c1 : Nat) (keys : List ByteArray) (A2 : Option Addr) (c2 : Nat) (vals : List ByteArray) (A3 : Option Addr) (c3 : Nat) (kids : List Int) (w : World) (hr1 : Kd.C Kd.string w A1 keys.length keys) (hc1 : keys.length ≤ c1) (hr2 : Kd.C Kd.string w A2 vals.length vals) (hc2 : vals.length ≤ c2) (hr3 : Kd.C (Kd.int .i64) w A3 kids.length kids) (hc3 : kids.length ≤ c3) (hi : impl_in.f (keys.length : Int) 1 4 = some true) (ha : impl_ascending.f keys = some true) (hl : impl_longer.f keys 24 = some false) (hn : vals.length = keys.length) (hl2 : impl_longer.f vals 24 = some true) :
  Calls Try.prog 32 #[.agg #[.bool true, .slice A1 keys.length c1, .slice A2 vals.length c2, .slice A3 kids.length c3]] w fun e w' => e = .returned (.bool false) ∧ Below w.heap.size w w' := by
 have HR1 := Aside0.mk hr1
 have HR2 := Aside0.mk hr2
 have HR3 := Aside0.mk hr3
 have HC1 := Aside0.mk hc1
 have HC2 := Aside0.mk hc2
 have HC3 := Aside0.mk hc3
 clear hr1 hr2 hr3 hc1 hc2 hc3
 have HI := Aside0.mk hi
 have HA := Aside0.mk ha
 have HL := Aside0.mk hl
 have HL2 := Aside0.mk hl2
 clear hi ha hl hl2
 have HN := Aside0.mk hn
 have hnb : ((vals.length : Int) == (keys.length : Int)) = true := beq_iff_eq.2 (by omega)
 clear hn
 go_enter Try.func32, Try.ntmps32
 go_wp2_with fail
 ((with_reducible refine (impl_in.calls (keys.length : Int) 1 4 true _ HI.out).mono ?_); rintro e w1 ⟨rfl, nd1, rfl⟩)
 have HB1 := Aside0.mk (show Below w.heap.size w _ from pw_below_drewN (below_alloc (Below.refl w.heap.size w) (.cells #[.bool true, .slice A1 keys.length c1, .slice A2 vals.length c2, .slice A3 kids.length c3] 68)) nd1)
 have BK1 := Aside0.mk (blk_drewN (blk_new w (.cells #[.bool true, .slice A1 keys.length c1, .slice A2 vals.length c2, .slice A3 kids.length c3] 68)) nd1)
 go_wp2_with fail
 ((with_reducible refine (impl_ascending.calls A1 c1 keys true _ (Kd.C_below HR1.out HB1.out) HC1.out HA.out).mono ?_); rintro e w2 ⟨rfl, hb2⟩)
 obtain ⟨hcell2, hfr2⟩ := bcell hb2
 have hz2 : w.heap.size < w2.heap.size := by have hh := hb2.size; (try simp at hh); omega
 have HB2 := Aside0.mk (below_step HB1.out hb2)
 have BK2 := Aside0.mk (blk_below BK1.out hb2)
 clear hb2
 go_wp2_with fail
 ((with_reducible refine (impl_longer.calls A1 c1 keys 24 false _ (Kd.C_below HR1.out HB2.out) HC1.out HL.out).mono ?_); rintro e w3 ⟨rfl, hb3⟩)
 obtain ⟨hcell3, hfr3⟩ := bcell hb3
 have hz3 : w.heap.size < w3.heap.size := by have hh := hb3.size; (try simp at hh); omega
 have HB3 := Aside0.mk (below_step HB2.out hb3)
 have BK3 := Aside0.mk (blk_below BK2.out hb3)
 clear hb3
 go_wp2_with fail
 ((with_reducible refine (impl_longer.calls A2 c2 vals 24 true _ (Kd.C_below HR2.out HB3.out) HC2.out HL2.out).mono ?_); rintro e w4 ⟨rfl, hb4⟩)
 obtain ⟨hcell4, hfr4⟩ := bcell hb4
 have hz4 : w.heap.size < w4.heap.size := by have hh := hb4.size; (try simp at hh); omega
 have HB4 := Aside0.mk (below_step HB3.out hb4)
 clear hb4
 go_wp2
 go_ret
 exact ⟨rfl, HB4.out⟩
theorem nodeOk_leaf (leaf : Bool) (A1 : Option Addr) (c1 : Nat) (keys : List ByteArray) (A2 : Option Addr) (c2 : Nat) (vals : List ByteArray) (A3 : Option Addr) (c3 : Nat) (kids : List Int) (w : World) (hr1 : Kd.C Kd.string w A1 keys.length keys) (hc1 : keys.length ≤ c1) (hr2 : Kd.C Kd.string w A2 vals.length vals) (hc2 : vals.length ≤ c2) (hr3 : Kd.C (Kd.int .i64) w A3 kids.length kids) (hc3 : kids.length ≤ c3) (hi : impl_in.f (keys.length : Int) 1 4 = some true) (ha : impl_ascending.f keys = some true) (hl : impl_longer.f keys 24 = some false) (hn : vals.length = keys.length) (hl2 : impl_longer.f vals 24 = some false) (r : Bool) (hk : decide (kids.length = 0) = r) :
  Calls Try.prog 32 #[.agg #[.bool true, .slice A1 keys.length c1, .slice A2 vals.length c2, .slice A3 kids.length c3]] w fun e w' => e = .returned (.bool r) ∧ Below w.heap.size w w' := by
 have HR1 := Aside0.mk hr1
 have HR2 := Aside0.mk hr2
 have HR3 := Aside0.mk hr3
 have HC1 := Aside0.mk hc1
 have HC2 := Aside0.mk hc2
 have HC3 := Aside0.mk hc3
 clear hr1 hr2 hr3 hc1 hc2 hc3
 have HI := Aside0.mk hi
 have HA := Aside0.mk ha
 have HL := Aside0.mk hl
 have HL2 := Aside0.mk hl2
 clear hi ha hl hl2
 have HN := Aside0.mk hn
 have HK := Aside0.mk hk
 have hnb : ((vals.length : Int) == (keys.length : Int)) = true := beq_iff_eq.2 (by omega)
 have hkb : ((kids.length : Int) == 0) = r := by rw [← hk]; by_cases h : kids.length = 0 <;> simp [h]
 clear hn hk
 go_enter Try.func32, Try.ntmps32
 go_wp2_with fail
 ((with_reducible refine (impl_in.calls (keys.length : Int) 1 4 true _ HI.out).mono ?_); rintro e w1 ⟨rfl, nd1, rfl⟩)
 have HB1 := Aside0.mk (show Below w.heap.size w _ from pw_below_drewN (below_alloc (Below.refl w.heap.size w) (.cells #[.bool true, .slice A1 keys.length c1, .slice A2 vals.length c2, .slice A3 kids.length c3] 68)) nd1)
 have BK1 := Aside0.mk (blk_drewN (blk_new w (.cells #[.bool true, .slice A1 keys.length c1, .slice A2 vals.length c2, .slice A3 kids.length c3] 68)) nd1)
 go_wp2_with fail
 ((with_reducible refine (impl_ascending.calls A1 c1 keys true _ (Kd.C_below HR1.out HB1.out) HC1.out HA.out).mono ?_); rintro e w2 ⟨rfl, hb2⟩)
 obtain ⟨hcell2, hfr2⟩ := bcell hb2
 have hz2 : w.heap.size < w2.heap.size := by have hh := hb2.size; (try simp at hh); omega
 have HB2 := Aside0.mk (below_step HB1.out hb2)
 have BK2 := Aside0.mk (blk_below BK1.out hb2)
 clear hb2
 go_wp2_with fail
 ((with_reducible refine (impl_longer.calls A1 c1 keys 24 false _ (Kd.C_below HR1.out HB2.out) HC1.out HL.out).mono ?_); rintro e w3 ⟨rfl, hb3⟩)
 obtain ⟨hcell3, hfr3⟩ := bcell hb3
 have hz3 : w.heap.size < w3.heap.size := by have hh := hb3.size; (try simp at hh); omega
 have HB3 := Aside0.mk (below_step HB2.out hb3)
 have BK3 := Aside0.mk (blk_below BK2.out hb3)
 clear hb3
 go_wp2_with fail
 ((with_reducible refine (impl_longer.calls A2 c2 vals 24 false _ (Kd.C_below HR2.out HB3.out) HC2.out HL2.out).mono ?_); rintro e w4 ⟨rfl, hb4⟩)
 obtain ⟨hcell4, hfr4⟩ := bcell hb4
 have hz4 : w.heap.size < w4.heap.size := by have hh := hb4.size; (try simp at hh); omega
 have HB4 := Aside0.mk (below_step HB3.out hb4)
 clear hb4
 go_wp2
 go_ret
 exact ⟨by first | rfl | simp [hkb], HB4.out⟩
theorem nodeOk_branch (leaf : Bool) (A1 : Option Addr) (c1 : Nat) (keys : List ByteArray) (A2 : Option Addr) (c2 : Nat) (vals : List ByteArray) (A3 : Option Addr) (c3 : Nat) (kids : List Int) (w : World) (hr1 : Kd.C Kd.string w A1 keys.length keys) (hc1 : keys.length ≤ c1) (hr2 : Kd.C Kd.string w A2 vals.length vals) (hc2 : vals.length ≤ c2) (hr3 : Kd.C (Kd.int .i64) w A3 kids.length kids) (hc3 : kids.length ≤ c3) (hi : impl_in.f (keys.length : Int) 1 4 = some true) (ha : impl_ascending.f keys = some true) (hl : impl_longer.f keys 24 = some false) (r : Bool) (hf : (BranchOk keys vals kids → r = true) ∧ (¬ BranchOk keys vals kids → r = false)) :
  Calls Try.prog 32 #[.agg #[.bool false, .slice A1 keys.length c1, .slice A2 vals.length c2, .slice A3 kids.length c3]] w fun e w' => e = .returned (.bool r) ∧ Below w.heap.size w w' := by
 have HR1 := Aside0.mk hr1
 have HR2 := Aside0.mk hr2
 have HR3 := Aside0.mk hr3
 have HC1 := Aside0.mk hc1
 have HC2 := Aside0.mk hc2
 have HC3 := Aside0.mk hc3
 clear hr1 hr2 hr3 hc1 hc2 hc3
 have HI := Aside0.mk hi
 have HA := Aside0.mk ha
 have HL := Aside0.mk hl
 have HF := Aside0.mk hf
 clear hi ha hl hf
 go_enter Try.func32, Try.ntmps32
 go_wp2_with fail
 ((with_reducible refine (impl_in.calls (keys.length : Int) 1 4 true _ HI.out).mono ?_); rintro e w1 ⟨rfl, nd1, rfl⟩)
 have HB1 := Aside0.mk (show Below w.heap.size w _ from pw_below_drewN (below_alloc (Below.refl w.heap.size w) (.cells #[.bool false, .slice A1 keys.length c1, .slice A2 vals.length c2, .slice A3 kids.length c3] 68)) nd1)
 have BK1 := Aside0.mk (blk_drewN (blk_new w (.cells #[.bool false, .slice A1 keys.length c1, .slice A2 vals.length c2, .slice A3 kids.length c3] 68)) nd1)
 go_wp2_with fail
 ((with_reducible refine (impl_ascending.calls A1 c1 keys true _ (Kd.C_below HR1.out HB1.out) HC1.out HA.out).mono ?_); rintro e w2 ⟨rfl, hb2⟩)
 obtain ⟨hcell2, hfr2⟩ := bcell hb2
 have hz2 : w.heap.size < w2.heap.size := by have hh := hb2.size; (try simp at hh); omega
 have HB2 := Aside0.mk (below_step HB1.out hb2)
 have BK2 := Aside0.mk (blk_below BK1.out hb2)
 clear hb2
 go_wp2_with fail
 ((with_reducible refine (impl_longer.calls A1 c1 keys 24 false _ (Kd.C_below HR1.out HB2.out) HC1.out HL.out).mono ?_); rintro e w3 ⟨rfl, hb3⟩)
 obtain ⟨hcell3, hfr3⟩ := bcell hb3
 have hz3 : w.heap.size < w3.heap.size := by have hh := hb3.size; (try simp at hh); omega
 have HB3 := Aside0.mk (below_step HB2.out hb3)
 have BK3 := Aside0.mk (blk_below BK2.out hb3)
 clear hb3
 go_wp2_with fail
 go_loopg [45] kids.length (fun gg s45 wr => ∃ kk : Nat, kk ≤ kids.length ∧ kids.length - kk ≤ gg ∧ s45 = .int .i64 kk ∧ Aside0 (Below w.heap.size w wr) ∧ Aside0 (wr.heap[w.heap.size]? = some (.cells #[.bool false, .slice A1 keys.length c1, .slice A2 vals.length c2, .slice A3 kids.length c3] 68 (0, 0))) ∧ Aside0 (∀ j (hj : j < kids.length), j < kk → 2 ≤ kids[j] ∧ kids[j] ≤ 39 ∧ (kids.take j).contains kids[j] = false))
 case atStart => exact ⟨0, Nat.zero_le _, by omega, rfl, HB3, BK3, ⟨fun j hj h => absurd h (Nat.not_lt_zero _)⟩⟩
 case round =>
  obtain ⟨kk, hkk, hg, rfl, HB, BK, A⟩ := hrel
  have hcn0 : wr.cell? ⟨w.heap.size, 1, none⟩ = some (.slice A1 keys.length c1) := (blk_cell BK.out 1).trans rfl
  have hcn1 : wr.cell? ⟨w.heap.size, 2, none⟩ = some (.slice A2 vals.length c2) := (blk_cell BK.out 2).trans rfl
  have hcn2 : wr.cell? ⟨w.heap.size, 3, none⟩ = some (.slice A3 kids.length c3) := (blk_cell BK.out 3).trans rfl
  by_cases hlt : kk < kids.length
  ·have hltz : (kk : Int) < (kids.length : Int) := by omega
   obtain ⟨ad, rfl, hcell⟩ := Kd.at_int (Kd.C_below HR3.out HB.out) (kk : Int) (by omega) hltz
   rw [Int.toNat_natCast] at hcell
   have hrd : rd kids (kk : Int) = kids[kk] := by simp [rd, List.getD_eq_getElem?_getD, List.getElem?_eq_getElem hlt]
   obtain ⟨y, hy⟩ : ∃ y, rd kids (kk : Int) = y := ⟨_, rfl⟩
   rw [hy] at hcell hrd
   have HY := Aside0.mk hrd
   clear hy hrd
   cases hin : decide (2 ≤ y ∧ y ≤ 39) with
   | false =>
    have HQ := Aside0.mk (show impl_in.f y 2 39 = some false by
     unfold impl_in.f
     have := of_decide_eq_false hin
     split
     ·congr 1; exact decide_eq_false (by omega)
     ·rfl)
    go_wp2_with fail
    ((with_reducible refine (impl_in.calls y 2 39 false _ HQ.out).mono ?_); rintro e w1 ⟨rfl, nd2, rfl⟩)
    go_wp2
    go_ret
    refine ⟨?_, pw_below_drewN HB.out nd2⟩
    rw [HF.out.2 (fun hP => by
     have h1 := hP.2.2 kk hlt
     have := of_decide_eq_false hin
     rw [HY.out] at this
     exact this ⟨h1.1, h1.2.1⟩)]
    rfl
   | true =>
    have HQ := Aside0.mk (show impl_in.f y 2 39 = some true by
     unfold impl_in.f
     have := of_decide_eq_true hin
     rw [if_pos (show y ≥ 2 by omega)]
     congr 1; exact decide_eq_true (by omega))
    cases hcon : (kids.take kk).contains y with
    | true =>
     obtain ⟨kf, hkf⟩ := contains_ev (kids.take kk) y true hcon (by rw [List.length_take]; have := (HR3.out).2.1; omega)
     have hlk : (kids.take kk).length = kk := by rw [List.length_take]; omega
     have hcall : ∀ nd, Calls Try.prog 75 #[.slice (some ad) kk c3, .int .i64 y] (wr.drewN nd) fun e w' => e = .returned (.bool true) ∧ Drawn0 (wr.drewN nd) w' := by
      intro nd
      have h := slices_Contains_int_int.calls kf (some ad) c3 (kids.take kk) y true (wr.drewN nd) (Kd.C_take (Kd.C_below HR3.out (pw_below_drewN HB.out nd)) (by omega)) (by rw [hlk]; have := HC3.out; omega) hkf
      rw [hlk] at h
      exact h
     have HK := Aside0.mk hcall
     have HCON := Aside0.mk hcon
     have hle : kk ≤ c3 := by have := HC3.out; omega
     have hlez : (kk : Int) ≤ (c3 : Int) := by omega
     clear hkf hlk hcall hcon
     go_wp2_with fail
     ((with_reducible refine (impl_in.calls y 2 39 true _ HQ.out).mono ?_); rintro e w1 ⟨rfl, nd2, rfl⟩)
     go_wp2_with fail
     ((with_reducible refine (HK.out nd2).mono ?_); rintro e w1 ⟨rfl, nd3, rfl⟩)
     go_wp2
     go_ret
     refine ⟨?_, pw_below_drewN HB.out _⟩
     rw [HF.out.2 (fun hP => by
      have h1 := (hP.2.2 kk hlt).2.2
      rw [← HY.out, HCON.out] at h1
      cases h1)]
     rfl
    | false =>
     obtain ⟨kf, hkf⟩ := contains_ev (kids.take kk) y false hcon (by rw [List.length_take]; have := (HR3.out).2.1; omega)
     have hlk : (kids.take kk).length = kk := by rw [List.length_take]; omega
     have hcall : ∀ nd, Calls Try.prog 75 #[.slice (some ad) kk c3, .int .i64 y] (wr.drewN nd) fun e w' => e = .returned (.bool false) ∧ Drawn0 (wr.drewN nd) w' := by
      intro nd
      have h := slices_Contains_int_int.calls kf (some ad) c3 (kids.take kk) y false (wr.drewN nd) (Kd.C_take (Kd.C_below HR3.out (pw_below_drewN HB.out nd)) (by omega)) (by rw [hlk]; have := HC3.out; omega) hkf
      rw [hlk] at h
      exact h
     have HK := Aside0.mk hcall
     have HCON := Aside0.mk hcon
     have hle : kk ≤ c3 := by have := HC3.out; omega
     have hlez : (kk : Int) ≤ (c3 : Int) := by omega
     clear hkf hlk hcall hcon
     go_wp2_with fail
     ((with_reducible refine (impl_in.calls y 2 39 true _ HQ.out).mono ?_); rintro e w1 ⟨rfl, nd2, rfl⟩)
     go_wp2_with fail
     ((with_reducible refine (HK.out nd2).mono ?_); rintro e w1 ⟨rfl, nd3, rfl⟩)
     go_wp2
     have hw : wrap64 ((kk : Int) + 1) = ((kk + 1 : Nat) : Int) := by have := (HR3.out).2.1; unfold wrap64; omega
     go_roundg (kids.length - (kk + 1))
     case measure => omega
     case rel =>
      refine ⟨kk + 1, by omega, by omega, by first | rfl | exact congrArg (Value.int .i64) hw, ⟨pw_below_drewN HB.out _⟩, ⟨blk_drewN BK.out _⟩, ⟨fun j hj hjk => ?_⟩⟩
      by_cases e : j = kk
      ·subst e
       have := of_decide_eq_true hin
       rw [← HY.out]
       exact ⟨this.1, this.2, HCON.out⟩
      ·exact A.out j hj (by omega)
  ·have hltz : ¬ (kk : Int) < (kids.length : Int) := by omega
   have : kk = kids.length := by omega
   subst this
   by_cases hn : kids.length = keys.length
   ·have hnb : ((kids.length : Int) == (keys.length : Int)) = true := beq_iff_eq.2 (by omega)
    have HN := Aside0.mk hn
    clear hn
    by_cases hv : vals.length = 0
    ·have hvb : ((vals.length : Int) == 0) = true := beq_iff_eq.2 (by omega)
     have hr1 : r = true := HF.out.1 ⟨HN.out, hv, fun i h => A.out i h h⟩
     subst hr1
     have HV := Aside0.mk hv
     clear hv
     go_wp2
     go_ret
     exact ⟨by first | rfl | simp [HV.out, HN.out], HB.out⟩
    ·have hvb : ((vals.length : Int) == 0) = false := beq_eq_false_iff_ne.2 (by omega)
     have hr1 : r = false := HF.out.2 (fun hP => hv hP.2.1)
     subst hr1
     have HV := Aside0.mk hv
     go_wp2
     go_ret
     exact ⟨by first | rfl | simp [HV.out, HN.out], HB.out⟩
   ·have hnz : ¬ (kids.length : Int) = (keys.length : Int) := by omega
    have hnb : ((kids.length : Int) == (keys.length : Int)) = false := beq_eq_false_iff_ne.2 hnz
    have hnd : decide ((kids.length : Int) = (keys.length : Int)) = false := decide_eq_false hnz
    have hr1 : r = false := HF.out.2 (fun hP => hn hP.1)
    subst hr1
    have HN := Aside0.mk hn
    go_wp2
    go_ret
    exact ⟨by first | rfl | simp [HN.out], HB.out⟩
def branchB (keys vals : List ByteArray) (kids : List Int) : Bool := decide (kids.length = keys.length) && decide (vals.length = 0) && (List.range kids.length).all fun i => decide (2 ≤ kids.getD i 0 ∧ kids.getD i 0 ≤ 39) && !((kids.take i).contains (kids.getD i 0))
theorem branchB_iff (keys vals : List ByteArray) (kids : List Int) : branchB keys vals kids = true ↔ BranchOk keys vals kids := by
 unfold branchB BranchOk
 simp only [Bool.and_eq_true, decide_eq_true_eq, List.all_eq_true, List.mem_range, Bool.not_eq_true', and_assoc]
 refine and_congr_right fun _ => and_congr_right fun _ => ?_
 constructor
 ·intro h i hi
  have := h i hi
  simpa [List.getD_eq_getElem?_getD, List.getElem?_eq_getElem hi] using this
 ·intro h i hi
  simpa [List.getD_eq_getElem?_getD, List.getElem?_eq_getElem hi] using h i hi
def longB (l : List ByteArray) : Bool := l.any fun s => decide ((s.size : Int) > 24)
def nodeOkB (leaf : Bool) (keys vals : List ByteArray) (kids : List Int) : Bool :=
 decide (1 ≤ keys.length ∧ keys.length ≤ 4) && ascB keys && !longB keys && (if leaf = true then decide (vals.length = keys.length) && !longB vals && decide (kids.length = 0) else branchB keys vals kids)
def impl_NodeOk.f (leaf : Bool) (keys vals : List ByteArray) (kids : List Int) : Option Bool := some (nodeOkB leaf keys vals kids)
theorem impl_NodeOk.calls (a0_0 : Bool) (A0_1 : Option Addr) (c0_1 : Nat) (l0_1 : List ByteArray) (A0_2 : Option Addr) (c0_2 : Nat) (l0_2 : List ByteArray) (A0_3 : Option Addr) (c0_3 : Nat) (l0_3 : List Int) (r : Bool) (w : World) (hr0_1 : Kd.C Kd.string w A0_1 l0_1.length l0_1) (hc0_1 : l0_1.length ≤ c0_1) (hr0_2 : Kd.C Kd.string w A0_2 l0_2.length l0_2) (hc0_2 : l0_2.length ≤ c0_2) (hr0_3 : Kd.C (Kd.int .i64) w A0_3 l0_3.length l0_3) (hc0_3 : l0_3.length ≤ c0_3) (h : impl_NodeOk.f a0_0 l0_1 l0_2 l0_3 = some r) :
  Calls Try.prog 32 #[.agg #[.bool a0_0, .slice A0_1 l0_1.length c0_1, .slice A0_2 l0_2.length c0_2, .slice A0_3 l0_3.length c0_3]] w fun e w' => e = .returned (.bool r) ∧ Below w.heap.size w w' := by
 obtain rfl := Option.some.inj h
 clear h
 have hI : ∀ b, decide (1 ≤ l0_1.length ∧ l0_1.length ≤ 4) = b → impl_in.f (l0_1.length : Int) 1 4 = some b := by
  intro b hb
  unfold impl_in.f
  subst hb
  by_cases h1 : (l0_1.length : Int) ≥ 1
  ·rw [if_pos h1]
   congr 1
   exact decide_eq_decide.2 ⟨fun _ => by omega, fun _ => by omega⟩
  ·rw [if_neg h1, decide_eq_false (by omega)]
 unfold nodeOkB
 cases b1 : decide (1 ≤ l0_1.length ∧ l0_1.length ≤ 4) with
 | false => exact nodeOk_in a0_0 A0_1 c0_1 l0_1 A0_2 c0_2 l0_2 A0_3 c0_3 l0_3 w hr0_1 hc0_1 hr0_2 hc0_2 hr0_3 hc0_3 (hI _ b1)
 | true =>
  have i1 := hI _ b1
  cases b2 : ascB l0_1 with
  | false => exact nodeOk_asc a0_0 A0_1 c0_1 l0_1 A0_2 c0_2 l0_2 A0_3 c0_3 l0_3 w hr0_1 hc0_1 hr0_2 hc0_2 hr0_3 hc0_3 i1 (congrArg some b2)
  | true =>
   cases b3 : longB l0_1 with
   | true => exact nodeOk_lng a0_0 A0_1 c0_1 l0_1 A0_2 c0_2 l0_2 A0_3 c0_3 l0_3 w hr0_1 hc0_1 hr0_2 hc0_2 hr0_3 hc0_3 i1 (congrArg some b2) (congrArg some b3)
   | false =>
    cases a0_0 with
    | true =>
     by_cases b4 : l0_2.length = l0_1.length
     ·cases b5 : longB l0_2 with
      | true =>
       have := nodeOk_leaf_lng true A0_1 c0_1 l0_1 A0_2 c0_2 l0_2 A0_3 c0_3 l0_3 w hr0_1 hc0_1 hr0_2 hc0_2 hr0_3 hc0_3 i1 (congrArg some b2) (congrArg some b3) b4 (congrArg some b5)
       simpa [b4] using this
      | false =>
       have := nodeOk_leaf true A0_1 c0_1 l0_1 A0_2 c0_2 l0_2 A0_3 c0_3 l0_3 w hr0_1 hc0_1 hr0_2 hc0_2 hr0_3 hc0_3 i1 (congrArg some b2) (congrArg some b3) b4 (congrArg some b5) _ rfl
       simpa [b4] using this
     ·have := nodeOk_leaf_len true A0_1 c0_1 l0_1 A0_2 c0_2 l0_2 A0_3 c0_3 l0_3 w hr0_1 hc0_1 hr0_2 hc0_2 hr0_3 hc0_3 i1 (congrArg some b2) (congrArg some b3) b4
      simpa [b4] using this
    | false =>
     have := nodeOk_branch false A0_1 c0_1 l0_1 A0_2 c0_2 l0_2 A0_3 c0_3 l0_3 w hr0_1 hc0_1 hr0_2 hc0_2 hr0_3 hc0_3 i1 (congrArg some b2) (congrArg some b3) (branchB l0_1 l0_2 l0_3)
      ⟨fun q => (branchB_iff _ _ _).2 q, fun q => by cases hh : branchB l0_1 l0_2 l0_3 with | false => rfl | true => exact absurd ((branchB_iff _ _ _).1 hh) q⟩
     simpa using this
theorem rdOf_cast {α : Type} (d : α) (xs : List α) (i : Nat) : rdOf d xs (i : Int) = xs.getD i d := by simp [rdOf]
theorem rd_cast (xs : List Int) (i : Nat) : rd xs (i : Int) = xs.getD i 0 := by simp [rd]
theorem wS {i : Nat} (h : i < 1000000) : wrap64 ((i : Int) + 1) = ((i + 1 : Nat) : Int) := by rw [w64 (by omega) (by omega)]; omega
theorem long_iff (l : List ByteArray) : longB l = false ↔ ∀ j, j < l.length → (l.getD j ByteArray.empty).size ≤ 24 := by
 unfold longB
 rw [List.any_eq_false]
 constructor
 ·intro h j hj
  have := h l[j] (List.getElem_mem hj)
  simp only [decide_eq_true_eq] at this
  rw [List.getD_eq_getElem?_getD, List.getElem?_eq_getElem hj]
  simp only [Option.getD_some]
  omega
 ·intro h x hx
  obtain ⟨j, hj, rfl⟩ := List.getElem_of_mem hx
  have := h j hj
  rw [List.getD_eq_getElem?_getD, List.getElem?_eq_getElem hj] at this
  simp only [Option.getD_some] at this
  simp only [decide_eq_true_eq]
  omega
theorem asc_iff (l : List ByteArray) : Asc l ↔ ∀ j, j < l.length → 0 < j → lessB (l.getD (j - 1) ByteArray.empty) (l.getD j ByteArray.empty) = true := by
 have hg : ∀ j (h : j < l.length), l.getD j ByteArray.empty = l[j] := fun j h => by rw [List.getD_eq_getElem?_getD, List.getElem?_eq_getElem h]; rfl
 constructor
 ·intro h j hj h0
  obtain ⟨m, rfl⟩ : ∃ m, j = m + 1 := ⟨j - 1, by omega⟩
  rw [hg _ hj, Nat.add_sub_cancel, hg m (by omega)]
  exact h m hj
 ·intro h j hj
  have := h (j + 1) hj (by omega)
  rw [hg _ hj, Nat.add_sub_cancel, hg j (by omega)] at this
  exact this
theorem nodeOk_iff (leaf : Bool) (keys vals : List ByteArray) (kids : List Int) : nodeOkB leaf keys vals kids = true ↔ NShape leaf keys vals kids ∧ ∀ j, j < keys.length → NCond leaf keys vals kids j := by
 unfold nodeOkB NShape NCond
 have hg : ∀ j (h : j < kids.length), kids.getD j 0 = kids[j] := fun j h => by rw [List.getD_eq_getElem?_getD, List.getElem?_eq_getElem h]; rfl
 rw [Bool.and_eq_true, Bool.and_eq_true, Bool.and_eq_true, decide_eq_true_eq, ascB_iff, asc_iff, Bool.not_eq_true', long_iff]
 cases leaf with
 | true =>
  rw [if_pos rfl, Bool.and_eq_true, Bool.and_eq_true, decide_eq_true_eq, decide_eq_true_eq, Bool.not_eq_true', long_iff]
  constructor
  ·rintro ⟨⟨⟨h1, h2⟩, h3⟩, ⟨h4, h5⟩, h6⟩
   exact ⟨⟨h1, fun _ => ⟨h4, h6⟩, (fun q => by cases q)⟩, fun j hj => ⟨h3 j hj, h2 j hj, fun _ => h5 j (by omega), (fun q => by cases q)⟩⟩
  ·rintro ⟨⟨h1, h2, _⟩, h3⟩
   have h4 := h2 rfl
   exact ⟨⟨⟨h1, fun j hj => (h3 j hj).2.1⟩, fun j hj => (h3 j hj).1⟩, ⟨h4.1, fun j hj => (h3 j (by omega)).2.2.1 rfl⟩, h4.2⟩
 | false =>
  rw [if_neg (by simp), branchB_iff]
  unfold BranchOk
  have hcon : ∀ j (h : j < kids.length), ((kids.take j).contains kids[j] = false ↔ ∀ q, q < j → kids.getD q 0 ≠ kids.getD j 0) := by
   intro j h
   rw [hg j h, Bool.eq_false_iff, Ne, List.contains_iff_mem]
   constructor
   ·intro hm q hq he
    apply hm
    rw [hg q (by omega)] at he
    rw [← he]
    exact List.mem_take_iff_getElem.2 ⟨q, by omega, rfl⟩
   ·intro hm hmem
    obtain ⟨q, hq, he⟩ := List.mem_take_iff_getElem.1 hmem
    have := hm q (by omega)
    rw [hg q (by omega)] at this
    exact this he
  constructor
  ·rintro ⟨⟨⟨h1, h2⟩, h3⟩, h4, h5, h6⟩
   refine ⟨⟨h1, (fun q => by cases q), fun _ => ⟨h4, h5⟩⟩, fun j hj => ⟨h3 j hj, h2 j hj, (fun q => by cases q), fun _ => ?_⟩⟩
   have := h6 j (by omega)
   rw [hcon j (by omega)] at this
   rw [hg j (by omega)] at this ⊢
   exact this
  ·rintro ⟨⟨h1, _, h2⟩, h3⟩
   have h4 := h2 rfl
   refine ⟨⟨⟨h1, fun j hj => (h3 j hj).2.1⟩, fun j hj => (h3 j hj).1⟩, h4.1, h4.2, fun j hj => ?_⟩
   have := (h3 j (by omega)).2.2.2 rfl
   rw [hcon j hj]
   rw [hg j hj] at this ⊢
   exact this
theorem spec_NodeOk_ev (leaf : Bool) (keys vals : List ByteArray) (kids : List Int) : Ev (fun k => spec_NodeOk.f k leaf keys vals kids) (nodeOkB leaf keys vals kids) := by
 have h : specB leaf keys vals kids = nodeOkB leaf keys vals kids := by rw [Bool.eq_iff_iff, specB_iff, nodeOk_iff]
 rw [← h]
 exact Ev.now _
end Go.Proofs.Ytapholbdjccapaa.PFnExactTreeOk
