import Derived.Test.YtapholbdjccapaaTE5
import Derived.Laws.BitsAllLaws
set_option maxHeartbeats 64000000
set_option maxRecDepth 100000
set_option linter.unusedVariables false
set_option linter.unusedSimpArgs false
namespace Go.Proofs.Ytapholbdjccapaa.PFnExactTreeOk
open Go.RowKit Go.Proofs.YtapholbdjccapaaW.PrintWords Go.Proofs.YtapholbdjccapaaW.PrintLast Go.Proofs.YtapholbdjccapaaW.PrintMore
attribute [local go_sem] max2_int min2_int max_two min_two max_three min_three max_four min_four
mutual
def impl_SumMore.l0 : Nat → Int → ByteArray → Int → Int → Option (Int)
 | 0, _, _, _, _ => none
 | k + 1, x0, x1, x8, x9 => if x9 < x8 then (if 0 ≤ x9 then (if x9 < (x1.size : Int) then (impl_SumMore.l1 k (Go.bits .xor .u32 x0 ((bt x1 x9) % 4294967296)) x1 x8 x9 0) else (none)) else (none)) else (some x0)
def impl_SumMore.l1 : Nat → Int → ByteArray → Int → Int → Int → Option (Int)
 | 0, _, _, _, _, _ => none
 | k + 1, x0, x1, x8, x9, x18 => if x18 < 8 then (if (Go.bits .and .u32 x0 1) = 1 then (impl_SumMore.l1 k (Go.bits .xor .u32 (x0 / 2) 3558460437) x1 x8 x9 (wrap64 (x18 + 1))) else (impl_SumMore.l1 k (x0 / 2) x1 x8 x9 (wrap64 (x18 + 1)))) else (impl_SumMore.l0 k x0 x1 x8 (wrap64 (x9 + 1)))
end
def impl_SumMore.f (k : Nat) (a0 : Int) (a1 : ByteArray) : Option (Int) := impl_SumMore.l0 k a0 a1 (a1.size : Int) 0
theorem impl_SumMore.mono_l : ∀ k, (∀ y0 y1 y2 y3, LeO (impl_SumMore.l0 k y0 y1 y2 y3) (impl_SumMore.l0 (k + 1) y0 y1 y2 y3)) ∧ (∀ y0 y1 y2 y3 y4, LeO (impl_SumMore.l1 k y0 y1 y2 y3 y4) (impl_SumMore.l1 (k + 1) y0 y1 y2 y3 y4))
 | 0 => ⟨fun _ _ _ _ r h => by simp [impl_SumMore.l0] at h, fun _ _ _ _ _ r h => by simp [impl_SumMore.l1] at h⟩
 | k + 1 => by
  obtain ⟨ih0, ih1⟩ := impl_SumMore.mono_l k
  refine ⟨?_, ?_⟩
  ·intro y0 y1 y2 y3
   unfold impl_SumMore.l0
   repeat' first
   | (with_reducible exact ih0 _ _ _ _)
   | (with_reducible exact ih1 _ _ _ _ _)
   | (with_reducible exact LeO.refl _)
   | (with_reducible exact LeO.none _)
   | (with_reducible refine LeO.ite ?_ ?_)
   | (with_reducible refine LeO.bind ?_ (fun _ => ?_))
   | exact ih0 _ _ _ _
   | exact ih1 _ _ _ _ _
  ·intro y0 y1 y2 y3 y4
   unfold impl_SumMore.l1
   repeat' first
   | (with_reducible exact ih0 _ _ _ _)
   | (with_reducible exact ih1 _ _ _ _ _)
   | (with_reducible exact LeO.refl _)
   | (with_reducible exact LeO.none _)
   | (with_reducible refine LeO.ite ?_ ?_)
   | (with_reducible refine LeO.bind ?_ (fun _ => ?_))
   | exact ih0 _ _ _ _
   | exact ih1 _ _ _ _ _
theorem impl_SumMore.mono : ∀ a0 a1 k, LeO (impl_SumMore.f k a0 a1) (impl_SumMore.f (k + 1) a0 a1) := by
 intro a0 a1 k
 obtain ⟨ih0, ih1⟩ := impl_SumMore.mono_l k
 unfold impl_SumMore.f
 repeat' first
   | (with_reducible exact ih0 _ _ _ _)
   | (with_reducible exact ih1 _ _ _ _ _)
   | (with_reducible exact LeO.refl _)
   | (with_reducible exact LeO.none _)
   | (with_reducible refine LeO.ite ?_ ?_)
   | (with_reducible refine LeO.bind ?_ (fun _ => ?_))
   | exact ih0 _ _ _ _
   | exact ih1 _ _ _ _ _
theorem impl_SumMore.calls (k : Nat) (a0 : Int) (a1 : ByteArray) (r : Int) (w : World) (h : impl_SumMore.f k a0 a1 = some r) :
  Calls Try.prog 153 #[.int .u32 a0, .string a1] w fun e w' => e = .returned (.int .u32 r) ∧ Drawn0 w w' := by
 have H : (impl_SumMore.l0 k a0 a1 (a1.size : Int) 0) = some r := h
 clear h
 have H' := Aside0.mk H
 clear H
 go_enter Try.func153, Try.ntmps153
 go_wp2
 go_loopg [0, 9] k (fun kq v0 v9 w' => ∃ (x0_1 : Int) (x9_1 : Int), v0 = .int .u32 x0_1 ∧ v9 = .int .i64 x9_1 ∧ Aside0 (impl_SumMore.l0 kq x0_1 a1 (a1.size : Int) x9_1 = some r) ∧ Aside0 (kq ≤ k) ∧ Drawn0 w w')
 case atStart => exact ⟨(a0), (0), (by first | rfl | (simp; done) | (simp [*]; done)), (by first | rfl | (simp; done) | (simp [*]; done)), H', ⟨Nat.le_refl _⟩, by repeat (first | exact Drawn0.refl _ | apply Drawn0.step)⟩
 case round =>
  clear H'
  obtain ⟨x0_1, x9_1, rfl, rfl, HA, HK1, ⟨m1, rfl⟩⟩ := hrel
  cases gk with
  | zero => exact absurd HA.out (by simp [impl_SumMore.l0])
  | succ k1 =>
   have H := HA.out
   clear HA
   simp only [impl_SumMore.l0] at H
   by_cases c3 : x9_1 < (a1.size : Int)
   ·rw [if_pos c3] at H
    have c3b0 : decide (x9_1 < (a1.size : Int)) = true := decide_eq_true c3
    clear c3
    by_cases c4 : 0 ≤ x9_1
    ·rw [if_pos c4] at H
     have c4b0 : decide (0 ≤ x9_1) = true := decide_eq_true c4
     clear c4
     by_cases c5 : x9_1 < (a1.size : Int)
     ·rw [if_pos c5] at H
      have c5b0 : decide (x9_1 < (a1.size : Int)) = true := decide_eq_true c5
      clear c5
      have H' := Aside0.mk H
      clear H
      have p6 : 0 ≤ (x9_1 : Int) := of_decide_eq_true (by with_reducible assumption)
      have q6 : x9_1 < (a1.size : Int) := of_decide_eq_true (by with_reducible assumption)
      have hx6 := bt_at a1 x9_1
      replace p6 := eq_true p6
      replace q6 := eq_true q6
      go_wp2
      go_loopg [0, 18] k1 (fun kq v0 v18 w' => ∃ (x0_2 : Int) (x18_2 : Int), v0 = .int .u32 x0_2 ∧ v18 = .int .i64 x18_2 ∧ Aside0 (impl_SumMore.l1 kq x0_2 a1 (a1.size : Int) x9_1 x18_2 = some r) ∧ Aside0 (kq ≤ k1) ∧ Drawn0 w w')
      case atStart => exact ⟨(Go.bits .xor .u32 x0_1 ((bt a1 x9_1) % 4294967296)), (0), (by first | rfl | (simp; done) | (simp [*]; done)), (by first | rfl | (simp; done) | (simp [*]; done)), H', ⟨Nat.le_refl _⟩, by repeat (first | exact Drawn0.refl _ | apply Drawn0.step)⟩
      case round =>
       clear H'
       try clear c3
       try clear c3b0
       try clear c4
       try clear c4b0
       try clear c5
       try clear c5b0
       try clear p6
       try clear q6
       try clear hx6
       try clear p6
       try clear q6
       obtain ⟨x0_2, x18_2, rfl, rfl, HA, HK2, ⟨m2, rfl⟩⟩ := hrel
       cases gk with
       | zero => exact absurd HA.out (by simp [impl_SumMore.l1])
       | succ k2 =>
        have H := HA.out
        clear HA
        simp only [impl_SumMore.l1] at H
        by_cases c7 : x18_2 < 8
        ·rw [if_pos c7] at H
         have c7b0 : decide (x18_2 < 8) = true := decide_eq_true c7
         clear c7
         by_cases c8 : (Go.bits .and .u32 x0_2 1) = 1
         ·rw [if_pos c8] at H
          have c8b0 : ((Go.bits .and .u32 x0_2 1) == 1) = true := beq_iff_eq.mpr c8
          have c8b1 : ((Go.bits .and .u32 x0_2 1) != 1) = false := bne_eq_false_iff_eq.mpr c8
          clear c8
          have H' := Aside0.mk H
          clear H
          go_wp2
          go_roundg k2
          case measure => have := HK1.out; have := HK2.out; omega
          case rel => exact ⟨(Go.bits .xor .u32 (x0_2 / 2) 3558460437), (wrap64 (x18_2 + 1)), (by first | rfl | (simp; done) | (simp [*]; done)), (by first | rfl | (simp; done) | (simp [*]; done)), H', ⟨by have := HK1.out; have := HK2.out; omega⟩, by repeat (first | exact Drawn0.refl _ | apply Drawn0.step)⟩
         ·rw [if_neg c8] at H
          have c8b0 : ((Go.bits .and .u32 x0_2 1) == 1) = false := beq_eq_false_iff_ne.mpr c8
          have c8b1 : ((Go.bits .and .u32 x0_2 1) != 1) = true := bne_iff_ne.mpr c8
          have H' := Aside0.mk H
          clear H
          go_wp2
          go_roundg k2
          case measure => have := HK1.out; have := HK2.out; omega
          case rel => exact ⟨(x0_2 / 2), (wrap64 (x18_2 + 1)), (by first | rfl | (simp; done) | (simp [*]; done)), (by first | rfl | (simp; done) | (simp [*]; done)), H', ⟨by have := HK1.out; have := HK2.out; omega⟩, by repeat (first | exact Drawn0.refl _ | apply Drawn0.step)⟩
        ·rw [if_neg c7] at H
         have c7b0 : decide (x18_2 < 8) = false := decide_eq_false c7
         clear c7
         have H' := Aside0.mk H
         clear H
         go_wp2
         go_roundg k2
         case measure => have := HK1.out; have := HK2.out; omega
         case rel => exact ⟨(x0_2), (wrap64 (x9_1 + 1)), (by first | rfl | (simp; done) | (simp [*]; done)), (by first | rfl | (simp; done) | (simp [*]; done)), H', ⟨by have := HK1.out; have := HK2.out; omega⟩, by repeat (first | exact Drawn0.refl _ | apply Drawn0.step)⟩
     ·rw [if_neg c5] at H
      exact absurd H (by simp)
    ·rw [if_neg c4] at H
     exact absurd H (by simp)
   ·rw [if_neg c3] at H
    have c3b0 : decide (x9_1 < (a1.size : Int)) = false := decide_eq_false c3
    clear c3
    obtain rfl := Option.some.inj H
    go_wp2
    go_ret
    exact ⟨by first | rfl | (simp; done) | (simp [*]; done), by repeat (first | exact Drawn0.refl _ | apply Drawn0.step)⟩
def impl_SumOf.f (k : Nat) (a0 : ByteArray) : Option (Int) := (impl_SumMore.f k 4294967295 a0).bind fun t209 => (some t209)
theorem impl_SumOf.mono : ∀ a0 k, LeO (impl_SumOf.f k a0) (impl_SumOf.f (k + 1) a0) := by
 intro a0 k
 unfold impl_SumOf.f
 repeat' first
   | (with_reducible exact impl_SumMore.mono _ _ _)
   | (with_reducible exact LeO.refl _)
   | (with_reducible exact LeO.none _)
   | (with_reducible refine LeO.ite ?_ ?_)
   | (with_reducible refine LeO.bind ?_ (fun _ => ?_))
   | exact impl_SumMore.mono _ _ _
theorem impl_SumOf.calls (k : Nat) (a0 : ByteArray) (r : Int) (w : World) (h : impl_SumOf.f k a0 = some r) :
  Calls Try.prog 125 #[.string a0] w fun e w' => e = .returned (.int .u32 r) ∧ Drawn0 w w' := by
 have H : ((impl_SumMore.f k 4294967295 a0).bind fun t209 => (some t209)) = some r := h
 clear h
 replace H := Option.bind_eq_some_iff.mp H
 obtain ⟨t209, A20, H⟩ := H
 replace H : (some t209) = some r := H
 have A2 := Aside0.mk A20
 clear A20
 obtain rfl := Option.some.inj H
 go_enter Try.func125, Try.ntmps125
 go_wp2_with (first | ((with_reducible refine gate_callee (f := 153) rfl ?_); refine goesL_ (some 4) rfl rfl Try.func153 (by kernel_rfl) rfl #[.int .u32 4294967295, .string a0] rfl (by (try simp only [List.map_toArray, List.map_cons, List.map_nil]); first | done | rfl | (simp only [List.length_drop, List.length_take]; rfl)) ?_; (with_reducible refine (impl_SumMore.calls k 4294967295 a0 t209 _ A2.out).mono ?_); rintro e w' ⟨rfl, ⟨nd, rfl⟩⟩; refine ⟨_, rfl, ?_⟩))
 go_ret
 exact ⟨by first | rfl | (simp; done) | (simp [*]; done), by repeat (first | exact Drawn0.refl _ | apply Drawn0.step)⟩
def impl_seal.f (k : Nat) (a0 : ByteArray) : Option (ByteArray) := (impl_SumOf.f k a0).bind fun t210 => (some (strOfNums (([(t210 / 16777216) % 256, (t210 / 65536) % 256, (t210 / 256) % 256, (t210) % 256] : List Int))))
theorem impl_seal.mono : ∀ a0 k, LeO (impl_seal.f k a0) (impl_seal.f (k + 1) a0) := by
 intro a0 k
 unfold impl_seal.f
 repeat' first
   | (with_reducible exact impl_SumOf.mono _ _)
   | (with_reducible exact LeO.refl _)
   | (with_reducible exact LeO.none _)
   | (with_reducible refine LeO.ite ?_ ?_)
   | (with_reducible refine LeO.bind ?_ (fun _ => ?_))
   | exact impl_SumOf.mono _ _
theorem impl_seal.calls (k : Nat) (a0 : ByteArray) (r : ByteArray) (w : World) (h : impl_seal.f k a0 = some r) :
  Calls Try.prog 68 #[.string a0] w fun e w' => e = .returned (.string r) ∧ Below w.heap.size w w' := by
 have HB := Aside0.mk (Below.refl w.heap.size w)
 have H : ((impl_SumOf.f k a0).bind fun t210 => (some (strOfNums (([(t210 / 16777216) % 256, (t210 / 65536) % 256, (t210 / 256) % 256, (t210) % 256] : List Int))))) = some r := h
 clear h
 replace H := Option.bind_eq_some_iff.mp H
 obtain ⟨t210, A20, H⟩ := H
 replace H : (some (strOfNums (([(t210 / 16777216) % 256, (t210 / 65536) % 256, (t210 / 256) % 256, (t210) % 256] : List Int)))) = some r := H
 have A2 := Aside0.mk A20
 clear A20
 obtain ⟨y211, hy211⟩ : ∃ y_ : List Int, y_ = (([(t210 / 16777216) % 256, (t210 / 65536) % 256, (t210 / 256) % 256, (t210) % 256] : List Int)) := ⟨_, rfl⟩
 replace H : (some (strOfNums y211)) = some r := by first | (rw [hy211]; with_reducible exact H) | (have H2_ := (Option.bind_some _ _).symm.trans H; rw [hy211]; with_reducible exact H2_) | (have H2_ := (Option.bind_some _ _).symm.trans H; with_reducible exact H2_) | with_reducible exact H | (rw [hy211]; exact H) | exact H
 have Ny211 := Aside0.mk hy211
 clear hy211
 obtain rfl := Option.some.inj H
 go_enter Try.func68, Try.ntmps68
 go_wp2_with (first | ((with_reducible refine gate_callee (f := 125) rfl ?_); refine goesL_ (some 5) rfl rfl Try.func125 (by kernel_rfl) rfl #[.string a0] rfl (by (try simp only [List.map_toArray, List.map_cons, List.map_nil]); first | done | rfl | (simp only [List.length_drop, List.length_take]; rfl)) ?_; (with_reducible refine (impl_SumOf.calls k a0 t210 _ A2.out).mono ?_); rintro e w' ⟨rfl, ⟨nd, rfl⟩⟩; refine ⟨_, rfl, ?_⟩) | ((with_reducible refine gate_dst (N := 17) rfl ?_); refine Kd.R_lit (Kd.int .u8) _ 5 ?hg (N := 17) ?hd (xs := ([(t210 / 16777216) % 256, (t210 / 65536) % 256, (t210 / 256) % 256, (t210) % 256] : List Int)) (inner := [.int .u8 ((t210 / 16777216) % 256), .int .u8 ((t210 / 65536) % 256), .int .u8 ((t210 / 256) % 256), .int .u8 ((t210) % 256)]) (ok := fun _ => True) (okp := fun _ => True) ?hr ?hp (fun _ hk => hk) trivial (Below.refl _ _) (Nat.le_refl _) (by simp) ?_; (case hd => rfl); (case hg => rfl); (case hr => first | (go_simp; done) | (go_simp; rfl)); (case hp => exact (Reps.one (show Kd.M (Kd.int .u8) _ _ _ ((t210 / 16777216) % 256) [.int .u8 ((t210 / 16777216) % 256)] from rfl) (Reps.one (show Kd.M (Kd.int .u8) _ _ _ ((t210 / 65536) % 256) [.int .u8 ((t210 / 65536) % 256)] from rfl) (Reps.one (show Kd.M (Kd.int .u8) _ _ _ ((t210 / 256) % 256) [.int .u8 ((t210 / 256) % 256)] from rfl) (Reps.one (show Kd.M (Kd.int .u8) _ _ _ ((t210) % 256) [.int .u8 ((t210) % 256)] from rfl) (Reps.none _ _)))))); intro v212 w3 ho4 hb hg_ hnew_; clear hg_ hnew_; (first | rw [← Ny211.out] at ho4 | (simp only [Int.reduceToNat] at ho4; rw [← Ny211.out] at ho4)); have n0_ := Aside0.mk (Kd.R_lower ho4 (below_size (by repeat (first | (with_reducible first | exact HB.out | apply below_alloc | apply pw_below_drewN | apply below_drew1) | exact HB.out)))); have n1_ := Aside0.mk (below_step (by repeat (first | (with_reducible first | exact HB.out | apply below_alloc | apply pw_below_drewN | apply below_drew1) | exact HB.out)) hb); clear HB; have HO213 := n0_; have HB := n1_; clear n0_ n1_; clear hb ho4; have hcv5 := own_string (P := Try.prog) Try.underlying55 Try.underlying5 Try.underlying9 (Kd.own_of_R HO213.out)))
 go_ret
 exact ⟨by first | rfl | (simp [errW_none, errW_some] <;> rfl) | (simp [*, errW_none, errW_some] <;> rfl), by repeat (first | (with_reducible first | exact HB.out | apply below_alloc | apply pw_below_drewN | apply below_drew1) | exact HB.out)⟩
def impl_Unsealed.f (k : Nat) (a0 : ByteArray) : Option (ByteArray × Bool) := (impl_in.f (wrap64 ((a0.size : Int) - 4)) 0 20000).bind fun t214 => (if t214 = true then (if 0 ≤ (wrap64 ((a0.size : Int) - 4)) then (if (wrap64 ((a0.size : Int) - 4)) ≤ (a0.size : Int) then ((impl_seal.f k (a0.extract 0 ((wrap64 ((a0.size : Int) - 4)) : Int).toNat)).bind fun t215 => (if (a0.extract ((wrap64 ((a0.size : Int) - 4)) : Int).toNat a0.size).toList = t215.toList then (some (a0.extract 0 ((wrap64 ((a0.size : Int) - 4)) : Int).toNat, true)) else (some ((⟨#[]⟩ : ByteArray), false)))) else (none)) else (none)) else (some ((⟨#[]⟩ : ByteArray), false)))
theorem impl_Unsealed.mono : ∀ a0 k, LeO (impl_Unsealed.f k a0) (impl_Unsealed.f (k + 1) a0) := by
 intro a0 k
 unfold impl_Unsealed.f
 repeat' first
   | (with_reducible exact impl_seal.mono _ _)
   | (with_reducible exact LeO.refl _)
   | (with_reducible exact LeO.none _)
   | (with_reducible refine LeO.ite ?_ ?_)
   | (with_reducible refine LeO.bind ?_ (fun _ => ?_))
   | exact impl_seal.mono _ _
def impl_Unsealed.T2 : Bool × List (List Nat × List Nat) := (true, [([], []), ([0], [0]), ([1], [1]), ([2, 1], [2]), ([3], [3]), ([3], [3]), ([4, 5, 3], [3, 4, 5]), ([3], [3]), ([3], [3]), ([7, 8, 3], [3, 7, 8]), ([9, 3, 3], [3, 9]), ([6, 10, 3], [3, 6, 10]), ([3, 11], [3, 11])])
def impl_Unsealed.B2 : List Nat := [0, 1, 3, 7, 15, 15, 63, 15, 15, 399, 911, 2047, 4095]
theorem impl_Unsealed.tab2 : rtab .any (opsOf Try.f69 2) = impl_Unsealed.T2 := by kernel_rfl
theorem impl_Unsealed.bits2 : waitsOk impl_Unsealed.T2.2 impl_Unsealed.B2 = true := by kernel_rfl
theorem impl_Unsealed.calls (k : Nat) (a0 : ByteArray) (r1 : ByteArray) (r2 : Bool) (w : World) (h : impl_Unsealed.f k a0 = some (r1, r2)) :
  Calls Try.prog 69 #[.string a0] w fun e w' => e = .returned (.tuple #[.string r1, .bool r2]) ∧ Below w.heap.size w w' := by
 have HB := Aside0.mk (Below.refl w.heap.size w)
 have H : ((impl_in.f (wrap64 ((a0.size : Int) - 4)) 0 20000).bind fun t214 => (if t214 = true then (if 0 ≤ (wrap64 ((a0.size : Int) - 4)) then (if (wrap64 ((a0.size : Int) - 4)) ≤ (a0.size : Int) then ((impl_seal.f k (a0.extract 0 ((wrap64 ((a0.size : Int) - 4)) : Int).toNat)).bind fun t215 => (if (a0.extract ((wrap64 ((a0.size : Int) - 4)) : Int).toNat a0.size).toList = t215.toList then (some (a0.extract 0 ((wrap64 ((a0.size : Int) - 4)) : Int).toNat, true)) else (some ((⟨#[]⟩ : ByteArray), false)))) else (none)) else (none)) else (some ((⟨#[]⟩ : ByteArray), false)))) = some (r1, r2) := h
 clear h
 replace H := Option.bind_eq_some_iff.mp H
 obtain ⟨t214, A20, H⟩ := H
 replace H : (if t214 = true then (if 0 ≤ (wrap64 ((a0.size : Int) - 4)) then (if (wrap64 ((a0.size : Int) - 4)) ≤ (a0.size : Int) then ((impl_seal.f k (a0.extract 0 ((wrap64 ((a0.size : Int) - 4)) : Int).toNat)).bind fun t215 => (if (a0.extract ((wrap64 ((a0.size : Int) - 4)) : Int).toNat a0.size).toList = t215.toList then (some (a0.extract 0 ((wrap64 ((a0.size : Int) - 4)) : Int).toNat, true)) else (some ((⟨#[]⟩ : ByteArray), false)))) else (none)) else (none)) else (some ((⟨#[]⟩ : ByteArray), false))) = some (r1, r2) := H
 have A2 := Aside0.mk A20
 clear A20
 by_cases c3 : t214 = true
 ·subst c3
  have H1 : (if 0 ≤ (wrap64 ((a0.size : Int) - 4)) then (if (wrap64 ((a0.size : Int) - 4)) ≤ (a0.size : Int) then ((impl_seal.f k (a0.extract 0 ((wrap64 ((a0.size : Int) - 4)) : Int).toNat)).bind fun t215 => (if (a0.extract ((wrap64 ((a0.size : Int) - 4)) : Int).toNat a0.size).toList = t215.toList then (some (a0.extract 0 ((wrap64 ((a0.size : Int) - 4)) : Int).toNat, true)) else (some ((⟨#[]⟩ : ByteArray), false)))) else (none)) else (none)) = some (r1, r2) := by rw [if_pos rfl] at H; exact H
  clear H
  have H := H1
  clear H1
  obtain ⟨ji4, hji4⟩ : ∃ j_ : Int, (wrap64 ((a0.size : Int) - 4)) = j_ := ⟨_, rfl⟩
  replace H : (if 0 ≤ (ji4) then (if (ji4) ≤ (a0.size : Int) then ((impl_seal.f k (a0.extract 0 ((ji4) : Int).toNat)).bind fun t215 => (if (a0.extract ((ji4) : Int).toNat a0.size).toList = t215.toList then (some (a0.extract 0 ((ji4) : Int).toNat, true)) else (some ((⟨#[]⟩ : ByteArray), false)))) else (none)) else (none)) = some (r1, r2) := by first | (rw [hji4] at H; exact H) | (simp only [hji4] at H ⊢; exact H)
  (try rw [hji4] at A2)
  have hji4w : (IntKind.i64.wrap ((a0.size : Int) - 4)) = ji4 := (i64_w _).trans hji4
  by_cases c5 : 0 ≤ (ji4)
  ·rw [if_pos c5] at H
   have c5b0 := eq_true c5
   have c5b1 : decide (0 ≤ (ji4)) = true := decide_eq_true c5
   clear c5
   by_cases c6 : (ji4) ≤ (a0.size : Int)
   ·rw [if_pos c6] at H
    have c6b0 := eq_true c6
    have c6b1 : decide ((ji4) ≤ (a0.size : Int)) = true := decide_eq_true c6
    clear c6
    have c7b0 := eq_true (of_decide_eq_true (by with_reducible assumption) : 0 ≤ (ji4))
    have c8b0 := eq_true (of_decide_eq_true (by with_reducible assumption) : (ji4) ≤ (a0.size : Int))
    replace H := Option.bind_eq_some_iff.mp H
    obtain ⟨t215, A90, H⟩ := H
    replace H : (if (a0.extract ((ji4) : Int).toNat a0.size).toList = t215.toList then (some (a0.extract 0 ((ji4) : Int).toNat, true)) else (some ((⟨#[]⟩ : ByteArray), false))) = some (r1, r2) := H
    have A9 := Aside0.mk A90
    clear A90
    by_cases c10 : (a0.extract ((ji4) : Int).toNat a0.size).toList = t215.toList
    ·rw [if_pos c10] at H
     have c10b0 : ((a0.extract ((ji4) : Int).toNat a0.size).toList == t215.toList) = true := beq_iff_eq.mpr c10
     have c10b1 : ((a0.extract ((ji4) : Int).toNat a0.size).toList != t215.toList) = false := bne_eq_false_iff_eq.mpr c10
     clear c10
     have c11b0 := eq_true (of_decide_eq_true (by with_reducible assumption) : 0 ≤ (ji4))
     have c12b0 := eq_true (of_decide_eq_true (by with_reducible assumption) : (ji4) ≤ (a0.size : Int))
     simp only [Option.some.injEq, Prod.mk.injEq] at H
     obtain ⟨rfl, rfl⟩ := H
     go_enter Try.func69, Try.ntmps69
     try go_wp2
     have n0_ := Aside0.mk (below_drew1 HB.out)
     clear HB
     have HB := n0_
     clear n0_
     refine start_ (n := 13) (S := fun w' => True) (ds := []) #[false, false, false, false, false, false, false, false, false, false, false, false, false] (by kernel_rfl) rfl rfl trivial (fun hHeld => ?_); refine with_tabW impl_Unsealed.tab2 impl_Unsealed.bits2 (fun HT_ HW_ => ?_)
     generalize w.drew = w13 at HB hHeld ⊢
     refine pure_ (i := 0) (N := some 8) (v := ?_) (a' := ?_) #[true, false, false, false, false, false, false, false, false, false, false, false, false] rfl rfl (any_of HT_.out (by kernel_rfl)) (fun _ _ _ h => h) (Or.inl ⟨by rfl, ?_⟩) ?_ ?_
     rotate_left
     ·intro w'
      go_simp
      with_reducible rfl
     rotate_left
     ·simp only [Act.put, List.setIfInBounds_toArray, List.set_cons_zero, List.set_cons_succ, i64_w, i32_w]
      rfl
     refine one_ (i := 1) (N := some 9) #[true, true, false, false, false, false, false, false, false, false, false, false, false] rfl rfl (one_of HT_.out (by kernel_rfl)) (by decide) (fun K hK => ?_)
     refine goes_ Try.func73 (by kernel_rfl) rfl #[.int .i64 ji4, .int .i64 0, .int .i64 20000] (by rfl) rfl rfl (by (try simp only [List.map_toArray, List.map_cons, List.map_nil]); first | done | (simp only [hji4]; rfl) | rfl | (simp only [List.length_drop, List.length_take]; rfl)) ?_
     with_reducible refine (impl_in.calls ji4 0 20000 true _ A2.out).mono ?_
     rintro e w' ⟨rfl, ⟨nd, rfl⟩⟩
     refine ⟨_, rfl, ?_⟩
     refine hK.out _ _ trivial (fun hHeld => ?_)
     clear hK K
     refine norm_ (a' := ?_) ?_ ?_
     rotate_left
     ·show Act.put _ (some 9) _ = _
      simp only [Act.put, List.setIfInBounds_toArray, List.set_cons_zero, List.set_cons_succ, i64_w, i32_w]
      rfl
     refine pure_ (i := 2) (N := some 10) (v := ?_) (a' := ?_) #[true, true, true, false, false, false, false, false, false, false, false, false, false] rfl rfl (any_of HT_.out (by kernel_rfl)) (fun _ _ _ h => h) (Or.inl ⟨by rfl, ?_⟩) ?_ ?_
     rotate_left
     ·intro w'
      go_simp
      with_reducible rfl
     rotate_left
     ·simp only [Act.put, List.setIfInBounds_toArray, List.set_cons_zero, List.set_cons_succ, i64_w, i32_w]
      rfl
     refine pure_ (i := 3) (N := some 11) (v := ?_) (a' := ?_) #[true, true, true, true, false, false, false, false, false, false, false, false, false] rfl rfl (any_of HT_.out (by kernel_rfl)) (fun _ _ _ h => h) (Or.inl ⟨by rfl, ?_⟩) ?_ ?_
     rotate_left
     ·intro w'
      go_simp
      with_reducible rfl
     rotate_left
     ·simp only [Act.put, List.setIfInBounds_toArray, List.set_cons_zero, List.set_cons_succ, i64_w, i32_w]
      rfl
     refine pure_ (i := 4) (N := some 12) (v := ?_) (a' := ?_) #[true, true, true, true, true, false, false, false, false, false, false, false, false] rfl rfl (any_of HT_.out (by kernel_rfl)) (fun _ _ _ h => h) (Or.inl ⟨by rfl, ?_⟩) ?_ ?_
     rotate_left
     ·intro w'
      go_simp
      with_reducible rfl
     rotate_left
     ·simp only [Act.put, List.setIfInBounds_toArray, List.set_cons_zero, List.set_cons_succ, i64_w, i32_w]
      rfl
     refine pure_ (i := 5) (N := some 13) (v := ?_) (a' := ?_) #[true, true, true, true, true, true, false, false, false, false, false, false, false] rfl rfl (any_of HT_.out (by kernel_rfl)) (fun _ _ _ h => h) (Or.inl ⟨by rfl, ?_⟩) ?_ ?_
     rotate_left
     ·intro w'
      go_simp
      with_reducible rfl
     rotate_left
     ·simp only [Act.put, List.setIfInBounds_toArray, List.set_cons_zero, List.set_cons_succ, i64_w, i32_w]
      rfl
     refine pure_ (i := 6) (N := some 14) (v := ?_) (a' := ?_) #[true, true, true, true, true, true, true, false, false, false, false, false, false] rfl rfl (any_of HT_.out (by kernel_rfl)) (fun _ _ _ h => h) (Or.inl ⟨by rfl, ?_⟩) ?_ ?_
     rotate_left
     ·intro w'
      go_simp
      with_reducible rfl
     rotate_left
     ·simp only [Act.put, List.setIfInBounds_toArray, List.set_cons_zero, List.set_cons_succ, i64_w, i32_w]
      rfl
     refine pure_ (i := 7) (N := some 15) (v := ?_) (a' := ?_) #[true, true, true, true, true, true, true, true, false, false, false, false, false] rfl rfl (any_of HT_.out (by kernel_rfl)) (fun _ _ _ h => h) (Or.inl ⟨by rfl, ?_⟩) ?_ ?_
     rotate_left
     ·intro w'
      go_simp
      with_reducible rfl
     rotate_left
     ·simp only [Act.put, List.setIfInBounds_toArray, List.set_cons_zero, List.set_cons_succ, i64_w, i32_w]
      rfl
     refine pure_ (i := 8) (N := some 16) (v := ?_) (a' := ?_) #[true, true, true, true, true, true, true, true, true, false, false, false, false] rfl rfl (any_of HT_.out (by kernel_rfl)) (fun _ _ _ h => h) (Or.inl ⟨by rfl, ?_⟩) ?_ ?_
     rotate_left
     ·intro w'
      go_simp
      with_reducible rfl
     rotate_left
     ·simp only [Act.put, List.setIfInBounds_toArray, List.set_cons_zero, List.set_cons_succ, i64_w, i32_w]
      rfl
     refine pure_ (i := 9) (N := some 17) (v := ?_) (a' := ?_) #[true, true, true, true, true, true, true, true, true, true, false, false, false] rfl rfl (any_of HT_.out (by kernel_rfl)) (fun _ _ _ h => h) (Or.inl ⟨by rfl, ?_⟩) ?_ ?_
     rotate_left
     ·intro w'
      go_simp
      with_reducible rfl
     rotate_left
     ·simp only [Act.put, List.setIfInBounds_toArray, List.set_cons_zero, List.set_cons_succ, i64_w, i32_w]
      rfl
     refine one_ (i := 10) (N := some 18) #[true, true, true, true, true, true, true, true, true, true, true, false, false] rfl rfl (one_of HT_.out (by kernel_rfl)) (by decide) (fun K hK => ?_)
     refine goes_ Try.func68 (by kernel_rfl) rfl #[.string (a0.extract 0 ((ji4) : Int).toNat)] (by rfl) rfl rfl (by (try simp only [List.map_toArray, List.map_cons, List.map_nil]); first | done | (simp only [hji4]; rfl) | rfl | (simp only [List.length_drop, List.length_take]; rfl)) ?_
     with_reducible refine (impl_seal.calls k (a0.extract 0 ((ji4) : Int).toNat) t215 _ A9.out).mono ?_
     rintro e w14 ⟨rfl, hb⟩
     refine ⟨_, rfl, ?_⟩
     have n0_ := Aside0.mk (below_step (by repeat (first | (with_reducible first | exact HB.out | apply below_alloc | apply pw_below_drewN | apply below_drew1) | exact HB.out)) hb)
     clear HB
     have HB := n0_
     clear n0_
     (try clear hb)
     (try clear hb2)
     (try clear hk)
     (try clear hi)
     refine hK.out _ _ trivial (fun hHeld => ?_)
     clear hK K
     refine norm_ (a' := ?_) ?_ ?_
     rotate_left
     ·show Act.put _ (some 18) _ = _
      simp only [Act.put, List.setIfInBounds_toArray, List.set_cons_zero, List.set_cons_succ, i64_w, i32_w]
      rfl
     refine pure_ (i := 11) (N := some 19) (v := ?_) (a' := ?_) #[true, true, true, true, true, true, true, true, true, true, true, true, false] rfl rfl (any_of HT_.out (by kernel_rfl)) (fun _ _ _ h => h) (Or.inl ⟨by rfl, ?_⟩) ?_ ?_
     rotate_left
     ·intro w'
      go_simp
      with_reducible rfl
     rotate_left
     ·simp only [Act.put, List.setIfInBounds_toArray, List.set_cons_zero, List.set_cons_succ, i64_w, i32_w]
      rfl
     refine pure_ (i := 12) (N := some 20) (v := ?_) (a' := ?_) #[true, true, true, true, true, true, true, true, true, true, true, true, true] rfl rfl (any_of HT_.out (by kernel_rfl)) (fun _ _ _ h => h) (Or.inl ⟨by rfl, ?_⟩) ?_ ?_
     rotate_left
     ·intro w'
      go_simp
      with_reducible rfl
     rotate_left
     ·simp only [Act.put, List.setIfInBounds_toArray, List.set_cons_zero, List.set_cons_succ, i64_w, i32_w]
      rfl
     refine done_ (done_of HT_.out (by kernel_rfl)) ?_
     try go_wp2
     go_ret2
     exact ⟨by first | rfl | (simp [errW_none, errW_some] <;> rfl) | (simp only [← hji4]; first | rfl | (simp [errW_none, errW_some] <;> rfl)) | (simp [*, errW_none, errW_some] <;> rfl), by repeat (first | (with_reducible first | exact HB.out | apply below_alloc | apply pw_below_drewN | apply below_drew1) | exact HB.out)⟩
    ·rw [if_neg c10] at H
     have c10b0 : ((a0.extract ((ji4) : Int).toNat a0.size).toList == t215.toList) = false := beq_eq_false_iff_ne.mpr c10
     have c10b1 : ((a0.extract ((ji4) : Int).toNat a0.size).toList != t215.toList) = true := bne_iff_ne.mpr c10
     simp only [Option.some.injEq, Prod.mk.injEq] at H
     obtain ⟨rfl, rfl⟩ := H
     go_enter Try.func69, Try.ntmps69
     try go_wp2
     have n0_ := Aside0.mk (below_drew1 HB.out)
     clear HB
     have HB := n0_
     clear n0_
     refine start_ (n := 13) (S := fun w' => True) (ds := []) #[false, false, false, false, false, false, false, false, false, false, false, false, false] (by kernel_rfl) rfl rfl trivial (fun hHeld => ?_); refine with_tabW impl_Unsealed.tab2 impl_Unsealed.bits2 (fun HT_ HW_ => ?_)
     generalize w.drew = w15 at HB hHeld ⊢
     refine pure_ (i := 0) (N := some 8) (v := ?_) (a' := ?_) #[true, false, false, false, false, false, false, false, false, false, false, false, false] rfl rfl (any_of HT_.out (by kernel_rfl)) (fun _ _ _ h => h) (Or.inl ⟨by rfl, ?_⟩) ?_ ?_
     rotate_left
     ·intro w'
      go_simp
      with_reducible rfl
     rotate_left
     ·simp only [Act.put, List.setIfInBounds_toArray, List.set_cons_zero, List.set_cons_succ, i64_w, i32_w]
      rfl
     refine one_ (i := 1) (N := some 9) #[true, true, false, false, false, false, false, false, false, false, false, false, false] rfl rfl (one_of HT_.out (by kernel_rfl)) (by decide) (fun K hK => ?_)
     refine goes_ Try.func73 (by kernel_rfl) rfl #[.int .i64 ji4, .int .i64 0, .int .i64 20000] (by rfl) rfl rfl (by (try simp only [List.map_toArray, List.map_cons, List.map_nil]); first | done | (simp only [hji4]; rfl) | rfl | (simp only [List.length_drop, List.length_take]; rfl)) ?_
     with_reducible refine (impl_in.calls ji4 0 20000 true _ A2.out).mono ?_
     rintro e w' ⟨rfl, ⟨nd, rfl⟩⟩
     refine ⟨_, rfl, ?_⟩
     refine hK.out _ _ trivial (fun hHeld => ?_)
     clear hK K
     refine norm_ (a' := ?_) ?_ ?_
     rotate_left
     ·show Act.put _ (some 9) _ = _
      simp only [Act.put, List.setIfInBounds_toArray, List.set_cons_zero, List.set_cons_succ, i64_w, i32_w]
      rfl
     refine pure_ (i := 2) (N := some 10) (v := ?_) (a' := ?_) #[true, true, true, false, false, false, false, false, false, false, false, false, false] rfl rfl (any_of HT_.out (by kernel_rfl)) (fun _ _ _ h => h) (Or.inl ⟨by rfl, ?_⟩) ?_ ?_
     rotate_left
     ·intro w'
      go_simp
      with_reducible rfl
     rotate_left
     ·simp only [Act.put, List.setIfInBounds_toArray, List.set_cons_zero, List.set_cons_succ, i64_w, i32_w]
      rfl
     refine pure_ (i := 3) (N := some 11) (v := ?_) (a' := ?_) #[true, true, true, true, false, false, false, false, false, false, false, false, false] rfl rfl (any_of HT_.out (by kernel_rfl)) (fun _ _ _ h => h) (Or.inl ⟨by rfl, ?_⟩) ?_ ?_
     rotate_left
     ·intro w'
      go_simp
      with_reducible rfl
     rotate_left
     ·simp only [Act.put, List.setIfInBounds_toArray, List.set_cons_zero, List.set_cons_succ, i64_w, i32_w]
      rfl
     refine pure_ (i := 4) (N := some 12) (v := ?_) (a' := ?_) #[true, true, true, true, true, false, false, false, false, false, false, false, false] rfl rfl (any_of HT_.out (by kernel_rfl)) (fun _ _ _ h => h) (Or.inl ⟨by rfl, ?_⟩) ?_ ?_
     rotate_left
     ·intro w'
      go_simp
      with_reducible rfl
     rotate_left
     ·simp only [Act.put, List.setIfInBounds_toArray, List.set_cons_zero, List.set_cons_succ, i64_w, i32_w]
      rfl
     refine pure_ (i := 5) (N := some 13) (v := ?_) (a' := ?_) #[true, true, true, true, true, true, false, false, false, false, false, false, false] rfl rfl (any_of HT_.out (by kernel_rfl)) (fun _ _ _ h => h) (Or.inl ⟨by rfl, ?_⟩) ?_ ?_
     rotate_left
     ·intro w'
      go_simp
      with_reducible rfl
     rotate_left
     ·simp only [Act.put, List.setIfInBounds_toArray, List.set_cons_zero, List.set_cons_succ, i64_w, i32_w]
      rfl
     refine pure_ (i := 6) (N := some 14) (v := ?_) (a' := ?_) #[true, true, true, true, true, true, true, false, false, false, false, false, false] rfl rfl (any_of HT_.out (by kernel_rfl)) (fun _ _ _ h => h) (Or.inl ⟨by rfl, ?_⟩) ?_ ?_
     rotate_left
     ·intro w'
      go_simp
      with_reducible rfl
     rotate_left
     ·simp only [Act.put, List.setIfInBounds_toArray, List.set_cons_zero, List.set_cons_succ, i64_w, i32_w]
      rfl
     refine pure_ (i := 7) (N := some 15) (v := ?_) (a' := ?_) #[true, true, true, true, true, true, true, true, false, false, false, false, false] rfl rfl (any_of HT_.out (by kernel_rfl)) (fun _ _ _ h => h) (Or.inl ⟨by rfl, ?_⟩) ?_ ?_
     rotate_left
     ·intro w'
      go_simp
      with_reducible rfl
     rotate_left
     ·simp only [Act.put, List.setIfInBounds_toArray, List.set_cons_zero, List.set_cons_succ, i64_w, i32_w]
      rfl
     refine pure_ (i := 8) (N := some 16) (v := ?_) (a' := ?_) #[true, true, true, true, true, true, true, true, true, false, false, false, false] rfl rfl (any_of HT_.out (by kernel_rfl)) (fun _ _ _ h => h) (Or.inl ⟨by rfl, ?_⟩) ?_ ?_
     rotate_left
     ·intro w'
      go_simp
      with_reducible rfl
     rotate_left
     ·simp only [Act.put, List.setIfInBounds_toArray, List.set_cons_zero, List.set_cons_succ, i64_w, i32_w]
      rfl
     refine pure_ (i := 9) (N := some 17) (v := ?_) (a' := ?_) #[true, true, true, true, true, true, true, true, true, true, false, false, false] rfl rfl (any_of HT_.out (by kernel_rfl)) (fun _ _ _ h => h) (Or.inl ⟨by rfl, ?_⟩) ?_ ?_
     rotate_left
     ·intro w'
      go_simp
      with_reducible rfl
     rotate_left
     ·simp only [Act.put, List.setIfInBounds_toArray, List.set_cons_zero, List.set_cons_succ, i64_w, i32_w]
      rfl
     refine one_ (i := 10) (N := some 18) #[true, true, true, true, true, true, true, true, true, true, true, false, false] rfl rfl (one_of HT_.out (by kernel_rfl)) (by decide) (fun K hK => ?_)
     refine goes_ Try.func68 (by kernel_rfl) rfl #[.string (a0.extract 0 ((ji4) : Int).toNat)] (by rfl) rfl rfl (by (try simp only [List.map_toArray, List.map_cons, List.map_nil]); first | done | (simp only [hji4]; rfl) | rfl | (simp only [List.length_drop, List.length_take]; rfl)) ?_
     with_reducible refine (impl_seal.calls k (a0.extract 0 ((ji4) : Int).toNat) t215 _ A9.out).mono ?_
     rintro e w16 ⟨rfl, hb⟩
     refine ⟨_, rfl, ?_⟩
     have n0_ := Aside0.mk (below_step (by repeat (first | (with_reducible first | exact HB.out | apply below_alloc | apply pw_below_drewN | apply below_drew1) | exact HB.out)) hb)
     clear HB
     have HB := n0_
     clear n0_
     (try clear hb)
     (try clear hb2)
     (try clear hk)
     (try clear hi)
     refine hK.out _ _ trivial (fun hHeld => ?_)
     clear hK K
     refine norm_ (a' := ?_) ?_ ?_
     rotate_left
     ·show Act.put _ (some 18) _ = _
      simp only [Act.put, List.setIfInBounds_toArray, List.set_cons_zero, List.set_cons_succ, i64_w, i32_w]
      rfl
     refine pure_ (i := 11) (N := some 19) (v := ?_) (a' := ?_) #[true, true, true, true, true, true, true, true, true, true, true, true, false] rfl rfl (any_of HT_.out (by kernel_rfl)) (fun _ _ _ h => h) (Or.inl ⟨by rfl, ?_⟩) ?_ ?_
     rotate_left
     ·intro w'
      go_simp
      with_reducible rfl
     rotate_left
     ·simp only [Act.put, List.setIfInBounds_toArray, List.set_cons_zero, List.set_cons_succ, i64_w, i32_w]
      rfl
     refine pure_ (i := 12) (N := some 20) (v := ?_) (a' := ?_) #[true, true, true, true, true, true, true, true, true, true, true, true, true] rfl rfl (any_of HT_.out (by kernel_rfl)) (fun _ _ _ h => h) (Or.inl ⟨by rfl, ?_⟩) ?_ ?_
     rotate_left
     ·intro w'
      go_simp
      with_reducible rfl
     rotate_left
     ·simp only [Act.put, List.setIfInBounds_toArray, List.set_cons_zero, List.set_cons_succ, i64_w, i32_w]
      rfl
     refine done_ (done_of HT_.out (by kernel_rfl)) ?_
     try go_wp2
     go_ret2
     exact ⟨by first | rfl | (simp [errW_none, errW_some] <;> rfl) | (simp only [← hji4]; first | rfl | (simp [errW_none, errW_some] <;> rfl)) | (simp [*, errW_none, errW_some] <;> rfl), by repeat (first | (with_reducible first | exact HB.out | apply below_alloc | apply pw_below_drewN | apply below_drew1) | exact HB.out)⟩
   ·rw [if_neg c6] at H
    exact absurd H (by simp)
  ·rw [if_neg c5] at H
   exact absurd H (by simp)
 ·replace c3 := Bool.eq_false_iff.mpr c3
  subst c3
  have H1 : (some ((⟨#[]⟩ : ByteArray), false)) = some (r1, r2) := by rw [if_neg (show ¬ (false = true) by decide)] at H; exact H
  clear H
  have H := H1
  clear H1
  simp only [Option.some.injEq, Prod.mk.injEq] at H
  obtain ⟨rfl, rfl⟩ := H
  go_enter Try.func69, Try.ntmps69
  try go_wp2
  have n0_ := Aside0.mk (below_drew1 HB.out)
  clear HB
  have HB := n0_
  clear n0_
  refine start_ (n := 13) (S := fun w' => True) (ds := []) #[false, false, false, false, false, false, false, false, false, false, false, false, false] (by kernel_rfl) rfl rfl trivial (fun hHeld => ?_); refine with_tabW impl_Unsealed.tab2 impl_Unsealed.bits2 (fun HT_ HW_ => ?_)
  generalize w.drew = w17 at HB hHeld ⊢
  refine pure_ (i := 0) (N := some 8) (v := ?_) (a' := ?_) #[true, false, false, false, false, false, false, false, false, false, false, false, false] rfl rfl (any_of HT_.out (by kernel_rfl)) (fun _ _ _ h => h) (Or.inl ⟨by rfl, ?_⟩) ?_ ?_
  rotate_left
  ·intro w'
   go_simp
   with_reducible rfl
  rotate_left
  ·simp only [Act.put, List.setIfInBounds_toArray, List.set_cons_zero, List.set_cons_succ, i64_w, i32_w]
   rfl
  refine one_ (i := 1) (N := some 9) #[true, true, false, false, false, false, false, false, false, false, false, false, false] rfl rfl (one_of HT_.out (by kernel_rfl)) (by decide) (fun K hK => ?_)
  refine goes_ Try.func73 (by kernel_rfl) rfl #[.int .i64 (wrap64 ((a0.size : Int) - 4)), .int .i64 0, .int .i64 20000] (by rfl) rfl rfl (by (try simp only [List.map_toArray, List.map_cons, List.map_nil]); first | done | rfl | (simp only [List.length_drop, List.length_take]; rfl)) ?_
  with_reducible refine (impl_in.calls (wrap64 ((a0.size : Int) - 4)) 0 20000 false _ A2.out).mono ?_
  rintro e w' ⟨rfl, ⟨nd, rfl⟩⟩
  refine ⟨_, rfl, ?_⟩
  refine hK.out _ _ trivial (fun hHeld => ?_)
  clear hK K
  refine norm_ (a' := ?_) ?_ ?_
  rotate_left
  ·show Act.put _ (some 9) _ = _
   simp only [Act.put, List.setIfInBounds_toArray, List.set_cons_zero, List.set_cons_succ, i64_w, i32_w]
   rfl
  refine pure_ (i := 2) (N := some 10) (v := ?_) (a' := ?_) #[true, true, true, false, false, false, false, false, false, false, false, false, false] rfl rfl (any_of HT_.out (by kernel_rfl)) (fun _ _ _ h => h) (Or.inl ⟨by rfl, ?_⟩) ?_ ?_
  rotate_left
  ·intro w'
   go_simp
   with_reducible rfl
  rotate_left
  ·simp only [Act.put, List.setIfInBounds_toArray, List.set_cons_zero, List.set_cons_succ, i64_w, i32_w]
   rfl
  refine pure_ (i := 3) (N := some 11) (v := ?_) (a' := ?_) #[true, true, true, true, false, false, false, false, false, false, false, false, false] rfl rfl (any_of HT_.out (by kernel_rfl)) (fun _ _ _ h => h) (Or.inl ⟨by rfl, ?_⟩) ?_ ?_
  rotate_left
  ·intro w'
   go_simp
   with_reducible rfl
  rotate_left
  ·simp only [Act.put, List.setIfInBounds_toArray, List.set_cons_zero, List.set_cons_succ, i64_w, i32_w]
   rfl
  refine pure_ (i := 4) (N := some 12) (v := undef) (a' := ?_) #[true, true, true, true, true, false, false, false, false, false, false, false, false] rfl rfl (any_of HT_.out (by kernel_rfl)) (fun _ _ _ h => h) (Or.inr ⟨by rfl, rfl⟩) ?_ ?_
  rotate_left
  ·simp only [Act.put, List.setIfInBounds_toArray, List.set_cons_zero, List.set_cons_succ, i64_w, i32_w]
   rfl
  refine pure_ (i := 5) (N := some 13) (v := undef) (a' := ?_) #[true, true, true, true, true, true, false, false, false, false, false, false, false] rfl rfl (any_of HT_.out (by kernel_rfl)) (fun _ _ _ h => h) (Or.inr ⟨by rfl, rfl⟩) ?_ ?_
  rotate_left
  ·simp only [Act.put, List.setIfInBounds_toArray, List.set_cons_zero, List.set_cons_succ, i64_w, i32_w]
   rfl
  refine pure_ (i := 6) (N := some 14) (v := undef) (a' := ?_) #[true, true, true, true, true, true, true, false, false, false, false, false, false] rfl rfl (any_of HT_.out (by kernel_rfl)) (fun _ _ _ h => h) (Or.inr ⟨by rfl, rfl⟩) ?_ ?_
  rotate_left
  ·simp only [Act.put, List.setIfInBounds_toArray, List.set_cons_zero, List.set_cons_succ, i64_w, i32_w]
   rfl
  refine pure_ (i := 7) (N := some 15) (v := undef) (a' := ?_) #[true, true, true, true, true, true, true, true, false, false, false, false, false] rfl rfl (any_of HT_.out (by kernel_rfl)) (fun _ _ _ h => h) (Or.inr ⟨by rfl, rfl⟩) ?_ ?_
  rotate_left
  ·simp only [Act.put, List.setIfInBounds_toArray, List.set_cons_zero, List.set_cons_succ, i64_w, i32_w]
   rfl
  refine pure_ (i := 8) (N := some 16) (v := undef) (a' := ?_) #[true, true, true, true, true, true, true, true, true, false, false, false, false] rfl rfl (any_of HT_.out (by kernel_rfl)) (fun _ _ _ h => h) (Or.inr ⟨by rfl, rfl⟩) ?_ ?_
  rotate_left
  ·simp only [Act.put, List.setIfInBounds_toArray, List.set_cons_zero, List.set_cons_succ, i64_w, i32_w]
   rfl
  refine pure_ (i := 9) (N := some 17) (v := undef) (a' := ?_) #[true, true, true, true, true, true, true, true, true, true, false, false, false] rfl rfl (any_of HT_.out (by kernel_rfl)) (fun _ _ _ h => h) (Or.inr ⟨by rfl, rfl⟩) ?_ ?_
  rotate_left
  ·simp only [Act.put, List.setIfInBounds_toArray, List.set_cons_zero, List.set_cons_succ, i64_w, i32_w]
   rfl
  refine pure_ (i := 10) (N := some 18) (v := undef) (a' := ?_) #[true, true, true, true, true, true, true, true, true, true, true, false, false] rfl rfl (any_of HT_.out (by kernel_rfl)) (fun _ _ _ h => h) (Or.inr ⟨by rfl, rfl⟩) ?_ ?_
  rotate_left
  ·simp only [Act.put, List.setIfInBounds_toArray, List.set_cons_zero, List.set_cons_succ, i64_w, i32_w]
   rfl
  refine pure_ (i := 11) (N := some 19) (v := undef) (a' := ?_) #[true, true, true, true, true, true, true, true, true, true, true, true, false] rfl rfl (any_of HT_.out (by kernel_rfl)) (fun _ _ _ h => h) (Or.inr ⟨by rfl, rfl⟩) ?_ ?_
  rotate_left
  ·simp only [Act.put, List.setIfInBounds_toArray, List.set_cons_zero, List.set_cons_succ, i64_w, i32_w]
   rfl
  refine pure_ (i := 12) (N := some 20) (v := ?_) (a' := ?_) #[true, true, true, true, true, true, true, true, true, true, true, true, true] rfl rfl (any_of HT_.out (by kernel_rfl)) (fun _ _ _ h => h) (Or.inl ⟨by rfl, ?_⟩) ?_ ?_
  rotate_left
  ·intro w'
   go_simp
   with_reducible rfl
  rotate_left
  ·simp only [Act.put, List.setIfInBounds_toArray, List.set_cons_zero, List.set_cons_succ, i64_w, i32_w]
   rfl
  refine done_ (done_of HT_.out (by kernel_rfl)) ?_
  try go_wp2
  go_ret2
  exact ⟨by first | rfl | (simp [errW_none, errW_some] <;> rfl) | (simp [*, errW_none, errW_some] <;> rfl), by repeat (first | (with_reducible first | exact HB.out | apply below_alloc | apply pw_below_drewN | apply below_drew1) | exact HB.out)⟩
def spec_Sealed.f (k : Nat) (a0 : ByteArray) : Option (ByteArray × Bool) := if (a0.size : Int) > 20000 then (some ((⟨#[]⟩ : ByteArray), false)) else ((spec_SumOf.f k a0).bind fun t138 => ((spec_l02Four.f t138).bind fun t139 => (if a0.size + t139.size ≤ 9223372036854775807 then (some (a0 ++ t139, true)) else (none))))
theorem spec_Sealed.mono : ∀ a0 k, LeO (spec_Sealed.f k a0) (spec_Sealed.f (k + 1) a0) := by
 intro a0 k
 unfold spec_Sealed.f
 repeat' first
   | (with_reducible exact spec_SumOf.mono _ _)
   | (with_reducible exact LeO.refl _)
   | (with_reducible exact LeO.none _)
   | (with_reducible refine LeO.ite ?_ ?_)
   | (with_reducible refine LeO.bind ?_ (fun _ => ?_))
   | exact spec_SumOf.mono _ _
theorem spec_Sealed.calls (k : Nat) (a0 : ByteArray) (r1 : ByteArray) (r2 : Bool) (w : World) (h : spec_Sealed.f k a0 = some (r1, r2)) :
  Calls Try.prog 72 #[.string a0] w fun e w' => e = .returned (.tuple #[.string r1, .bool r2]) ∧ Below w.heap.size w w' := by
 have HB := Aside0.mk (Below.refl w.heap.size w)
 have H : (if (a0.size : Int) > 20000 then (some ((⟨#[]⟩ : ByteArray), false)) else ((spec_SumOf.f k a0).bind fun t138 => ((spec_l02Four.f t138).bind fun t139 => (if a0.size + t139.size ≤ 9223372036854775807 then (some (a0 ++ t139, true)) else (none))))) = some (r1, r2) := h
 clear h
 by_cases c2 : (a0.size : Int) > 20000
 ·rw [if_pos c2] at H
  have c2b0 : decide (20000 < (a0.size : Int)) = true := decide_eq_true c2
  have c2b1 : decide (20000 < a0.size) = true := decide_eq_true (by omega)
  clear c2
  simp only [Option.some.injEq, Prod.mk.injEq] at H
  obtain ⟨rfl, rfl⟩ := H
  go_enter Try.func72, Try.ntmps72
  go_wp2
  go_ret2
  exact ⟨by first | rfl | (simp [errW_none, errW_some] <;> rfl) | (simp [*, errW_none, errW_some] <;> rfl), by repeat (first | (with_reducible first | exact HB.out | apply below_alloc | apply pw_below_drewN | apply below_drew1) | exact HB.out)⟩
 ·rw [if_neg c2] at H
  have c2b0 : decide (20000 < (a0.size : Int)) = false := decide_eq_false c2
  have c2b1 : decide (20000 < a0.size) = false := decide_eq_false (by omega)
  clear c2
  replace H := Option.bind_eq_some_iff.mp H
  obtain ⟨t138, A30, H⟩ := H
  replace H : ((spec_l02Four.f t138).bind fun t139 => (if a0.size + t139.size ≤ 9223372036854775807 then (some (a0 ++ t139, true)) else (none))) = some (r1, r2) := H
  have A3 := Aside0.mk A30
  clear A30
  replace H := Option.bind_eq_some_iff.mp H
  obtain ⟨t139, A40, H⟩ := H
  replace H : (if a0.size + t139.size ≤ 9223372036854775807 then (some (a0 ++ t139, true)) else (none)) = some (r1, r2) := H
  have A4 := Aside0.mk A40
  clear A40
  by_cases c5 : a0.size + t139.size ≤ 9223372036854775807
  ·rw [if_pos c5] at H
   have c5b0 := eq_true c5
   have c5b1 : decide (a0.size + t139.size ≤ 9223372036854775807) = true := decide_eq_true c5
   try have c5b2 : (9223372036854775807 < a0.size + t139.size) = False := eq_false (Nat.not_lt.2 c5)
   simp only [Option.some.injEq, Prod.mk.injEq] at H
   obtain ⟨rfl, rfl⟩ := H
   go_enter Try.func72, Try.ntmps72
   go_wp2_with (first | ((with_reducible refine gate_callee (f := 128) rfl ?_); refine goesL_ (some 9) rfl rfl Try.func128 (by kernel_rfl) rfl #[.string a0] rfl (by (try simp only [List.map_toArray, List.map_cons, List.map_nil]); first | done | rfl | (simp only [List.length_drop, List.length_take]; rfl)) ?_; (with_reducible refine (spec_SumOf.calls k a0 t138 _ A3.out).mono ?_); rintro e w' ⟨rfl, ⟨nd, rfl⟩⟩; refine ⟨_, rfl, ?_⟩) | ((with_reducible refine gate_callee (f := 127) rfl ?_); refine goesL_ (some 10) rfl rfl Try.func127 (by kernel_rfl) rfl #[.int .u32 t138] rfl (by (try simp only [List.map_toArray, List.map_cons, List.map_nil]); first | done | rfl | (simp only [List.length_drop, List.length_take]; rfl)) ?_; (with_reducible refine (spec_l02Four.calls t138 t139 _ A4.out).mono ?_); rintro e w6 ⟨rfl, hb⟩; refine ⟨_, rfl, ?_⟩; have n0_ := Aside0.mk (below_step (by repeat (first | (with_reducible first | exact HB.out | apply below_alloc | apply pw_below_drewN | apply below_drew1) | exact HB.out)) hb); clear HB; have HB := n0_; clear n0_; (try clear hb); (try clear hb2); (try clear hk); (try clear hi)))
   go_ret2
   exact ⟨by first | rfl | (simp [errW_none, errW_some] <;> rfl) | (simp [*, errW_none, errW_some] <;> rfl), by repeat (first | (with_reducible first | exact HB.out | apply below_alloc | apply pw_below_drewN | apply below_drew1) | exact HB.out)⟩
  ·rw [if_neg c5] at H
   exact absurd H (by simp)
def spec_l04Short.f (k : Nat) (a0 : ByteArray) : Option (ByteArray) := (spec_l01Var.f k (a0.size : Int)).bind fun t140 => (if t140.size + a0.size ≤ 9223372036854775807 then (some (t140 ++ a0)) else (none))
theorem spec_l04Short.mono : ∀ a0 k, LeO (spec_l04Short.f k a0) (spec_l04Short.f (k + 1) a0) := by
 intro a0 k
 unfold spec_l04Short.f
 repeat' first
   | (with_reducible exact spec_l01Var.mono _ _)
   | (with_reducible exact LeO.refl _)
   | (with_reducible exact LeO.none _)
   | (with_reducible refine LeO.ite ?_ ?_)
   | (with_reducible refine LeO.bind ?_ (fun _ => ?_))
   | exact spec_l01Var.mono _ _
theorem spec_l04Short.calls (k : Nat) (a0 : ByteArray) (r : ByteArray) (w : World) (h : spec_l04Short.f k a0 = some r) :
  Calls Try.prog 158 #[.string a0] w fun e w' => e = .returned (.string r) ∧ Below w.heap.size w w' := by
 have HB := Aside0.mk (Below.refl w.heap.size w)
 have H : ((spec_l01Var.f k (a0.size : Int)).bind fun t140 => (if t140.size + a0.size ≤ 9223372036854775807 then (some (t140 ++ a0)) else (none))) = some r := h
 clear h
 replace H := Option.bind_eq_some_iff.mp H
 obtain ⟨t140, A20, H⟩ := H
 replace H : (if t140.size + a0.size ≤ 9223372036854775807 then (some (t140 ++ a0)) else (none)) = some r := H
 have A2 := Aside0.mk A20
 clear A20
 by_cases c3 : t140.size + a0.size ≤ 9223372036854775807
 ·rw [if_pos c3] at H
  have c3b0 := eq_true c3
  have c3b1 : decide (t140.size + a0.size ≤ 9223372036854775807) = true := decide_eq_true c3
  try have c3b2 : (9223372036854775807 < t140.size + a0.size) = False := eq_false (Nat.not_lt.2 c3)
  obtain rfl := Option.some.inj H
  go_enter Try.func158, Try.ntmps158
  go_wp2_with (first | ((with_reducible refine gate_callee (f := 71) rfl ?_); refine goesL_ (some 5) rfl rfl Try.func71 (by kernel_rfl) rfl #[.int .i64 (a0.size : Int)] rfl (by (try simp only [List.map_toArray, List.map_cons, List.map_nil]); first | done | rfl | (simp only [List.length_drop, List.length_take]; rfl)) ?_; (with_reducible refine (spec_l01Var.calls k (a0.size : Int) t140 _ A2.out).mono ?_); rintro e w4 ⟨rfl, hb⟩; refine ⟨_, rfl, ?_⟩; have n0_ := Aside0.mk (below_step (by repeat (first | (with_reducible first | exact HB.out | apply below_alloc | apply pw_below_drewN | apply below_drew1) | exact HB.out)) hb); clear HB; have HB := n0_; clear n0_; (try clear hb); (try clear hb2); (try clear hk); (try clear hi)))
  go_ret
  exact ⟨by first | rfl | (simp [errW_none, errW_some] <;> rfl) | (simp [*, errW_none, errW_some] <;> rfl), by repeat (first | (with_reducible first | exact HB.out | apply below_alloc | apply pw_below_drewN | apply below_drew1) | exact HB.out)⟩
 ·rw [if_neg c3] at H
  exact absurd H (by simp)
mutual
def spec_l05Bytes.j0 : Nat → ByteArray → Bool → List ByteArray → List ByteArray → List Int → Option (ByteArray)
 | 0, _, _, _, _, _ => none
 | k + 1, x3, x142000, x142001, x142002, x142003 => (spec_l01Var.f k (x142001.length : Int)).bind fun t142 => (if x3.size + t142.size ≤ 9223372036854775807 then (spec_l05Bytes.l0 k (x3 ++ t142) 0 x142000 x142001 x142002 x142003) else (none))
def spec_l05Bytes.l0 : Nat → ByteArray → Int → Bool → List ByteArray → List ByteArray → List Int → Option (ByteArray)
 | 0, _, _, _, _, _, _ => none
 | k + 1, x3, x4, x142000, x142001, x142002, x142003 => if x4 < (x142001.length : Int) then (if 0 ≤ x4 then ((spec_l04Short.f k (rdOf ByteArray.empty x142001 x4)).bind fun t144 => (if x3.size + t144.size ≤ 9223372036854775807 then (if x142000 = true then (if x4 < (x142002.length : Int) then ((spec_l04Short.f k (rdOf ByteArray.empty x142002 x4)).bind fun t146 => (if (x3 ++ t144).size + t146.size ≤ 9223372036854775807 then (spec_l05Bytes.l0 k ((x3 ++ t144) ++ t146) (wrap64 (x4 + 1)) x142000 x142001 x142002 x142003) else (none))) else (none)) else (if x4 < (x142003.length : Int) then ((spec_l01Var.f k (rd x142003 x4)).bind fun t148 => (if (x3 ++ t144).size + t148.size ≤ 9223372036854775807 then (spec_l05Bytes.l0 k ((x3 ++ t144) ++ t148) (wrap64 (x4 + 1)) x142000 x142001 x142002 x142003) else (none))) else (none))) else (none))) else (none)) else (some x3)
end
def spec_l05Bytes.f (k : Nat) (a0_0 : Bool) (l0_1 : List ByteArray) (l0_2 : List ByteArray) (l0_3 : List Int) : Option (ByteArray) := if a0_0 = true then (spec_l05Bytes.j0 k (⟨#[108]⟩ : ByteArray) a0_0 l0_1 l0_2 l0_3) else (spec_l05Bytes.j0 k (⟨#[98]⟩ : ByteArray) a0_0 l0_1 l0_2 l0_3)
theorem spec_l05Bytes.mono_l : ∀ k, (∀ y0 y1 y2 y3 y4, LeO (spec_l05Bytes.j0 k y0 y1 y2 y3 y4) (spec_l05Bytes.j0 (k + 1) y0 y1 y2 y3 y4)) ∧ (∀ y0 y1 y2 y3 y4 y5, LeO (spec_l05Bytes.l0 k y0 y1 y2 y3 y4 y5) (spec_l05Bytes.l0 (k + 1) y0 y1 y2 y3 y4 y5))
 | 0 => ⟨fun _ _ _ _ _ r h => by simp [spec_l05Bytes.j0] at h, fun _ _ _ _ _ _ r h => by simp [spec_l05Bytes.l0] at h⟩
 | k + 1 => by
  obtain ⟨ih0, ih1⟩ := spec_l05Bytes.mono_l k
  refine ⟨?_, ?_⟩
  ·intro y0 y1 y2 y3 y4
   unfold spec_l05Bytes.j0
   repeat' first
   | (with_reducible exact ih0 _ _ _ _ _)
   | (with_reducible exact ih1 _ _ _ _ _ _)
   | (with_reducible exact spec_l01Var.mono _ _)
   | (with_reducible exact spec_l04Short.mono _ _)
   | (with_reducible exact LeO.refl _)
   | (with_reducible exact LeO.none _)
   | (with_reducible refine LeO.ite ?_ ?_)
   | (with_reducible refine LeO.bind ?_ (fun _ => ?_))
   | exact ih0 _ _ _ _ _
   | exact ih1 _ _ _ _ _ _
   | exact spec_l01Var.mono _ _
   | exact spec_l04Short.mono _ _
  ·intro y0 y1 y2 y3 y4 y5
   unfold spec_l05Bytes.l0
   repeat' first
   | (with_reducible exact ih0 _ _ _ _ _)
   | (with_reducible exact ih1 _ _ _ _ _ _)
   | (with_reducible exact spec_l01Var.mono _ _)
   | (with_reducible exact spec_l04Short.mono _ _)
   | (with_reducible exact LeO.refl _)
   | (with_reducible exact LeO.none _)
   | (with_reducible refine LeO.ite ?_ ?_)
   | (with_reducible refine LeO.bind ?_ (fun _ => ?_))
   | exact ih0 _ _ _ _ _
   | exact ih1 _ _ _ _ _ _
   | exact spec_l01Var.mono _ _
   | exact spec_l04Short.mono _ _
theorem spec_l05Bytes.mono : ∀ a0 a1 a2 a3 k, LeO (spec_l05Bytes.f k a0 a1 a2 a3) (spec_l05Bytes.f (k + 1) a0 a1 a2 a3) := by
 intro a0 a1 a2 a3 k
 obtain ⟨ih0, ih1⟩ := spec_l05Bytes.mono_l k
 unfold spec_l05Bytes.f
 repeat' first
   | (with_reducible exact ih0 _ _ _ _ _)
   | (with_reducible exact ih1 _ _ _ _ _ _)
   | (with_reducible exact spec_l01Var.mono _ _)
   | (with_reducible exact spec_l04Short.mono _ _)
   | (with_reducible exact LeO.refl _)
   | (with_reducible exact LeO.none _)
   | (with_reducible refine LeO.ite ?_ ?_)
   | (with_reducible refine LeO.bind ?_ (fun _ => ?_))
   | exact ih0 _ _ _ _ _
   | exact ih1 _ _ _ _ _ _
   | exact spec_l01Var.mono _ _
   | exact spec_l04Short.mono _ _
theorem spec_l05Bytes.calls (k : Nat) (a0_0 : Bool) (A0_1 : Option Addr) (c0_1 : Nat) (l0_1 : List ByteArray) (A0_2 : Option Addr) (c0_2 : Nat) (l0_2 : List ByteArray) (A0_3 : Option Addr) (c0_3 : Nat) (l0_3 : List Int) (r : ByteArray) (w : World) (hr0_1 : Kd.C Kd.string w A0_1 l0_1.length l0_1) (hc0_1 : l0_1.length ≤ c0_1) (hr0_2 : Kd.C Kd.string w A0_2 l0_2.length l0_2) (hc0_2 : l0_2.length ≤ c0_2) (hr0_3 : Kd.C (Kd.int .i64) w A0_3 l0_3.length l0_3) (hc0_3 : l0_3.length ≤ c0_3) (h : spec_l05Bytes.f k a0_0 l0_1 l0_2 l0_3 = some r) :
  Calls Try.prog 137 #[.agg #[.bool a0_0, .slice A0_1 l0_1.length c0_1, .slice A0_2 l0_2.length c0_2, .slice A0_3 l0_3.length c0_3]] w fun e w' => e = .returned (.string r) ∧ Below w.heap.size w w' := by
 have hu68 := Try.underlying68
 have HR0_1 := Aside0.mk hr0_1
 have HC0_1 := Aside0.mk hc0_1
 clear hr0_1 hc0_1
 have HR0_2 := Aside0.mk hr0_2
 have HC0_2 := Aside0.mk hc0_2
 clear hr0_2 hc0_2
 have HR0_3 := Aside0.mk hr0_3
 have HC0_3 := Aside0.mk hc0_3
 clear hr0_3 hc0_3
 have HB := Aside0.mk (Below.refl w.heap.size w)
 have H : (if a0_0 = true then (spec_l05Bytes.j0 k (⟨#[108]⟩ : ByteArray) a0_0 l0_1 l0_2 l0_3) else (spec_l05Bytes.j0 k (⟨#[98]⟩ : ByteArray) a0_0 l0_1 l0_2 l0_3)) = some r := h
 clear h
 have HC2 := Aside0.mk H
 clear H
 go_enter Try.func137, Try.ntmps137
 go_upto_if 6 with (first | ((with_reducible refine gate_dst (N := 1) rfl ?_); refine box_event ?hg (N := 1) ?hd (cs := #[.bool a0_0, .slice A0_1 l0_1.length c0_1, .slice A0_2 l0_2.length c0_2, .slice A0_3 l0_3.length c0_3]) (t := 68) ?hr ?_; (case hd => rfl); (case hg => rfl); (case hr => first | (go_simp; done) | (go_simp; rfl)); intro gb141 hg w3 hbox hb; have n0_ := Aside0.mk (below_step (by repeat (first | (with_reducible first | exact HB.out | apply below_alloc | apply pw_below_drewN | apply below_drew1) | exact HB.out)) hb); have n1_ := Aside0.mk (hbox); have n2_ := Aside0.mk ((by rw [hg]; exact (below_size (by repeat (first | (with_reducible first | exact HB.out | apply below_alloc | apply pw_below_drewN | apply below_drew1) | exact HB.out))) : w.heap.size ≤ gb141)); have n3_ := Aside0.mk ((by rw [hg]; exact (below_size (by repeat (first | (with_reducible first | exact HB.out | apply below_alloc | apply pw_below_drewN | apply below_drew1) | exact HB.out))) : w.heap.size ≤ gb141)); clear HB; have HB := n0_; have BK141 := n1_; have GW141 := n2_; have GE141 := n3_; clear n0_ n1_ n2_ n3_; clear hb hbox hg; have hcz4_0 : w3.cell? ⟨gb141, 0, none⟩ = some (.bool a0_0) := (blk_cell BK141.out 0).trans rfl; have hcz4_1 : w3.cell? ⟨gb141, 1, none⟩ = some (.slice A0_1 l0_1.length c0_1) := (blk_cell BK141.out 1).trans rfl; have hcz4_2 : w3.cell? ⟨gb141, 2, none⟩ = some (.slice A0_2 l0_2.length c0_2) := (blk_cell BK141.out 2).trans rfl; have hcz4_3 : w3.cell? ⟨gb141, 3, none⟩ = some (.slice A0_3 l0_3.length c0_3) := (blk_cell BK141.out 3).trans rfl; have hfz4_0 := blk_frozen BK141.out 0; have hfz4_1 := blk_frozen BK141.out 1; have hfz4_2 := blk_frozen BK141.out 2; have hfz4_3 := blk_frozen BK141.out 3))
 (try simp only [Act.put, List.setIfInBounds_toArray, List.set_cons_zero, List.set_cons_succ])
 go_cut [3] (fun v3 wc => ∃ (kq : Nat) (x3_1 : ByteArray), v3 = .string x3_1 ∧ Aside0 (spec_l05Bytes.j0 kq x3_1 a0_0 l0_1 l0_2 l0_3 = some r) ∧ Aside0 (kq ≤ k) ∧ Aside0 (wc.heap[gb141]? = some (.cells #[.bool a0_0, (.slice A0_1 l0_1.length c0_1), (.slice A0_2 l0_2.length c0_2), (.slice A0_3 l0_3.length c0_3)] 68 (0, 0))) ∧ Aside0 (Below w.heap.size w wc))
 case first =>
  have H := HC2.out
  clear HC2
  by_cases c5 : a0_0 = true
  ·subst c5
   have H1 : (spec_l05Bytes.j0 k (⟨#[108]⟩ : ByteArray) true l0_1 l0_2 l0_3) = some r := by rw [if_pos rfl] at H; exact H
   clear H
   have H := H1
   clear H1
   have H' := Aside0.mk H
   clear H
   go_wp2
   go_meet
   case rel => exact ⟨_, ((⟨#[108]⟩ : ByteArray)), (by first | rfl | (simp; done) | (simp [*]; done)), H', ⟨by first | omega | exact Nat.le_refl _⟩, ⟨by (with_reducible repeat (first | refine blk_drewN ?_ _ | refine blk_drew ?_ | refine blk_alloc ?_ _)); exact BK141.out⟩, ⟨by repeat (first | (with_reducible first | exact HB.out | apply below_alloc | apply pw_below_drewN | apply below_drew1 | refine below_set ?_ GE141.out) | exact HB.out)⟩⟩
  ·replace c5 := Bool.eq_false_iff.mpr c5
   subst c5
   have H1 : (spec_l05Bytes.j0 k (⟨#[98]⟩ : ByteArray) false l0_1 l0_2 l0_3) = some r := by rw [if_neg (show ¬ (false = true) by decide)] at H; exact H
   clear H
   have H := H1
   clear H1
   have H' := Aside0.mk H
   clear H
   go_wp2
   go_meet
   case rel => exact ⟨_, ((⟨#[98]⟩ : ByteArray)), (by first | rfl | (simp; done) | (simp [*]; done)), H', ⟨by first | omega | exact Nat.le_refl _⟩, ⟨by (with_reducible repeat (first | refine blk_drewN ?_ _ | refine blk_drew ?_ | refine blk_alloc ?_ _)); exact BK141.out⟩, ⟨by repeat (first | (with_reducible first | exact HB.out | apply below_alloc | apply pw_below_drewN | apply below_drew1 | refine below_set ?_ GE141.out) | exact HB.out)⟩⟩
 case rest =>
  clear HC2
  try clear c5
  try clear hcz4_0
  try clear hcz4_1
  try clear hcz4_2
  try clear hcz4_3
  try clear hfz4_0
  try clear hfz4_1
  try clear hfz4_2
  try clear hfz4_3
  obtain ⟨kq, x3_1, rfl, HA, HJ1, BK141, HB⟩ := hcut
  cases kq with
  | zero => exact absurd HA.out (by simp [spec_l05Bytes.j0])
  | succ kj1 =>
   have H := HA.out
   clear HA
   simp only [spec_l05Bytes.j0] at H
   replace H := Option.bind_eq_some_iff.mp H
   obtain ⟨t142, A60, H⟩ := H
   replace H : (if x3_1.size + t142.size ≤ 9223372036854775807 then (spec_l05Bytes.l0 kj1 (x3_1 ++ t142) 0 a0_0 l0_1 l0_2 l0_3) else (none)) = some r := H
   have A6 := Aside0.mk A60
   clear A60
   by_cases c7 : x3_1.size + t142.size ≤ 9223372036854775807
   ·rw [if_pos c7] at H
    have c7b0 := eq_true c7
    have c7b1 : decide (x3_1.size + t142.size ≤ 9223372036854775807) = true := decide_eq_true c7
    try have c7b2 : (9223372036854775807 < x3_1.size + t142.size) = False := eq_false (Nat.not_lt.2 c7)
    have H' := Aside0.mk H
    clear H
    have hcz8_0 : wc.cell? ⟨gb141, 0, none⟩ = some (.bool a0_0) := (blk_cell BK141.out 0).trans rfl
    have hcz8_1 : wc.cell? ⟨gb141, 1, none⟩ = some (.slice A0_1 l0_1.length c0_1) := (blk_cell BK141.out 1).trans rfl
    have hcz8_2 : wc.cell? ⟨gb141, 2, none⟩ = some (.slice A0_2 l0_2.length c0_2) := (blk_cell BK141.out 2).trans rfl
    have hcz8_3 : wc.cell? ⟨gb141, 3, none⟩ = some (.slice A0_3 l0_3.length c0_3) := (blk_cell BK141.out 3).trans rfl
    have hfz8_0 := blk_frozen BK141.out 0
    have hfz8_1 := blk_frozen BK141.out 1
    have hfz8_2 := blk_frozen BK141.out 2
    have hfz8_3 := blk_frozen BK141.out 3
    go_wp2_with (first | ((with_reducible refine gate_callee (f := 71) rfl ?_); refine goesL_ (some 11) rfl rfl Try.func71 (by kernel_rfl) rfl #[.int .i64 (l0_1.length : Int)] rfl (by (try simp only [List.map_toArray, List.map_cons, List.map_nil]); first | done | rfl | (simp only [List.length_drop, List.length_take]; rfl)) ?_; (with_reducible refine (spec_l01Var.calls kj1 (l0_1.length : Int) t142 _ A6.out).mono ?_); rintro e w9 ⟨rfl, hb⟩; refine ⟨_, rfl, ?_⟩; have n0_ := Aside0.mk (blk_below (g := gb141) (o := .cells #[.bool a0_0, .slice A0_1 l0_1.length c0_1, .slice A0_2 l0_2.length c0_2, .slice A0_3 l0_3.length c0_3] 68 (0, 0)) (by (with_reducible repeat (first | refine blk_drewN ?_ _ | refine blk_drew ?_ | refine blk_alloc ?_ _)); exact BK141.out) hb); have n1_ := Aside0.mk (below_step (by repeat (first | (with_reducible first | exact HB.out | apply below_alloc | apply pw_below_drewN | apply below_drew1 | refine below_set ?_ GE141.out) | exact HB.out)) hb); clear BK141; clear HB; have BK141 := n0_; have HB := n1_; clear n0_ n1_; (try clear hb); (try clear hb2); (try clear hk); (try clear hi)))
    go_loopg [3, 4] kj1 (fun kq v3 v4 w' => ∃ (x3_2 : ByteArray) (x4_2 : Int), v3 = .string x3_2 ∧ v4 = .int .i64 x4_2 ∧ Aside0 (spec_l05Bytes.l0 kq x3_2 x4_2 a0_0 l0_1 l0_2 l0_3 = some r) ∧ Aside0 (kq ≤ kj1) ∧ Aside0 (w'.heap[gb141]? = some (.cells #[.bool a0_0, (.slice A0_1 l0_1.length c0_1), (.slice A0_2 l0_2.length c0_2), (.slice A0_3 l0_3.length c0_3)] 68 (0, 0))) ∧ Aside0 (Below w.heap.size w w'))
    case atStart => exact ⟨(x3_1 ++ t142), (0), (by first | rfl | (simp; done) | (simp [*]; done)), (by first | rfl | (simp; done) | (simp [*]; done)), H', ⟨Nat.le_refl _⟩, ⟨by (with_reducible repeat (first | refine blk_drewN ?_ _ | refine blk_drew ?_ | refine blk_alloc ?_ _)); exact BK141.out⟩, ⟨by repeat (first | (with_reducible first | exact HB.out | apply below_alloc | apply pw_below_drewN | apply below_drew1 | refine below_set ?_ GE141.out) | exact HB.out)⟩⟩
    case round =>
     clear H'
     try clear c5
     try clear c7
     try clear c7b0
     try clear c7b1
     try clear c7b2
     try clear hcz4_0
     try clear hcz4_1
     try clear hcz4_2
     try clear hcz4_3
     try clear hcz8_0
     try clear hcz8_1
     try clear hcz8_2
     try clear hcz8_3
     try clear hfz4_0
     try clear hfz4_1
     try clear hfz4_2
     try clear hfz4_3
     try clear hfz8_0
     try clear hfz8_1
     try clear hfz8_2
     try clear hfz8_3
     obtain ⟨x3_2, x4_2, rfl, rfl, HA, HK2, BK141, HB⟩ := hrel
     cases gk with
     | zero => exact absurd HA.out (by simp [spec_l05Bytes.l0])
     | succ k2 =>
      have H := HA.out
      clear HA
      simp only [spec_l05Bytes.l0] at H
      by_cases c10 : x4_2 < (l0_1.length : Int)
      ·rw [if_pos c10] at H
       have c10b0 : decide (x4_2 < (l0_1.length : Int)) = true := decide_eq_true c10
       clear c10
       by_cases c11 : 0 ≤ x4_2
       ·rw [if_pos c11] at H
        have c11b0 : decide (0 ≤ x4_2) = true := decide_eq_true c11
        clear c11
        replace H := Option.bind_eq_some_iff.mp H
        obtain ⟨t144, A120, H⟩ := H
        replace H : (if x3_2.size + t144.size ≤ 9223372036854775807 then (if a0_0 = true then (if x4_2 < (l0_2.length : Int) then ((spec_l04Short.f k2 (rdOf ByteArray.empty l0_2 x4_2)).bind fun t146 => (if (x3_2 ++ t144).size + t146.size ≤ 9223372036854775807 then (spec_l05Bytes.l0 k2 ((x3_2 ++ t144) ++ t146) (wrap64 (x4_2 + 1)) a0_0 l0_1 l0_2 l0_3) else (none))) else (none)) else (if x4_2 < (l0_3.length : Int) then ((spec_l01Var.f k2 (rd l0_3 x4_2)).bind fun t148 => (if (x3_2 ++ t144).size + t148.size ≤ 9223372036854775807 then (spec_l05Bytes.l0 k2 ((x3_2 ++ t144) ++ t148) (wrap64 (x4_2 + 1)) a0_0 l0_1 l0_2 l0_3) else (none))) else (none))) else (none)) = some r := H
        have A12 := Aside0.mk A120
        clear A120
        by_cases c13 : x3_2.size + t144.size ≤ 9223372036854775807
        ·rw [if_pos c13] at H
         have c13b0 := eq_true c13
         have c13b1 : decide (x3_2.size + t144.size ≤ 9223372036854775807) = true := decide_eq_true c13
         try have c13b2 : (9223372036854775807 < x3_2.size + t144.size) = False := eq_false (Nat.not_lt.2 c13)
         by_cases c14 : a0_0 = true
         ·subst c14
          have H1 : (if x4_2 < (l0_2.length : Int) then ((spec_l04Short.f k2 (rdOf ByteArray.empty l0_2 x4_2)).bind fun t146 => (if (x3_2 ++ t144).size + t146.size ≤ 9223372036854775807 then (spec_l05Bytes.l0 k2 ((x3_2 ++ t144) ++ t146) (wrap64 (x4_2 + 1)) true l0_1 l0_2 l0_3) else (none))) else (none)) = some r := by rw [if_pos rfl] at H; exact H
          clear H
          have H := H1
          clear H1
          by_cases c15 : x4_2 < (l0_2.length : Int)
          ·rw [if_pos c15] at H
           have c15b0 : decide (x4_2 < (l0_2.length : Int)) = true := decide_eq_true c15
           clear c15
           replace H := Option.bind_eq_some_iff.mp H
           obtain ⟨t146, A160, H⟩ := H
           replace H : (if (x3_2 ++ t144).size + t146.size ≤ 9223372036854775807 then (spec_l05Bytes.l0 k2 ((x3_2 ++ t144) ++ t146) (wrap64 (x4_2 + 1)) true l0_1 l0_2 l0_3) else (none)) = some r := H
           have A16 := Aside0.mk A160
           clear A160
           by_cases c17 : (x3_2 ++ t144).size + t146.size ≤ 9223372036854775807
           ·rw [if_pos c17] at H
            have c17b0 := eq_true c17
            have c17b1 : decide ((x3_2 ++ t144).size + t146.size ≤ 9223372036854775807) = true := decide_eq_true c17
            try (have c17z1 := c17b1; simp only [ByteArray.size_append] at c17z1)
            try (have c17y1 := c17b1; simp only [ByteArray.size_append, Int.natCast_add] at c17y1)
            try have c17b2 : (9223372036854775807 < (x3_2 ++ t144).size + t146.size) = False := eq_false (Nat.not_lt.2 c17)
            try (have c17b3 := c17b2; simp only [ByteArray.size_append] at c17b3)
            have H' := Aside0.mk H
            clear H
            have hcz18_0 : wr.cell? ⟨gb141, 0, none⟩ = some (.bool true) := (blk_cell BK141.out 0).trans rfl
            have hcz18_1 : wr.cell? ⟨gb141, 1, none⟩ = some (.slice A0_1 l0_1.length c0_1) := (blk_cell BK141.out 1).trans rfl
            have hcz18_2 : wr.cell? ⟨gb141, 2, none⟩ = some (.slice A0_2 l0_2.length c0_2) := (blk_cell BK141.out 2).trans rfl
            have hcz18_3 : wr.cell? ⟨gb141, 3, none⟩ = some (.slice A0_3 l0_3.length c0_3) := (blk_cell BK141.out 3).trans rfl
            have hfz18_0 := blk_frozen BK141.out 0
            have hfz18_1 := blk_frozen BK141.out 1
            have hfz18_2 := blk_frozen BK141.out 2
            have hfz18_3 := blk_frozen BK141.out 3
            have p143 : 0 ≤ (x4_2 : Int) := of_decide_eq_true (by with_reducible assumption)
            have q143 : x4_2 < (l0_1.length : Int) := of_decide_eq_true (by with_reducible assumption)
            obtain ⟨ad143, e143, hx143_0⟩ := Kd.at_string HR0_1.out x4_2 p143 q143
            cases e143
            replace hx143_0 := (HB.out.cell (World.block_lt_of_cell? w _ hx143_0)).trans hx143_0
            replace p143 := eq_true p143
            replace q143 := eq_true q143
            go_wp2_with (first | ((with_reducible refine gate_callee (f := 158) rfl ?_); refine goesL_ (some 26) rfl rfl Try.func158 (by kernel_rfl) rfl #[.string (rdOf ByteArray.empty l0_1 x4_2)] rfl (by (try simp only [List.map_toArray, List.map_cons, List.map_nil]); first | done | rfl | (simp only [List.length_drop, List.length_take]; rfl)) ?_; (with_reducible refine (spec_l04Short.calls k2 (rdOf ByteArray.empty l0_1 x4_2) t144 _ A12.out).mono ?_); rintro e w19 ⟨rfl, hb⟩; refine ⟨_, rfl, ?_⟩; have n0_ := Aside0.mk (blk_below (g := gb141) (o := .cells #[.bool true, .slice (some ad143) l0_1.length c0_1, .slice A0_2 l0_2.length c0_2, .slice A0_3 l0_3.length c0_3] 68 (0, 0)) (by (with_reducible repeat (first | refine blk_drewN ?_ _ | refine blk_drew ?_ | refine blk_alloc ?_ _)); exact BK141.out) hb); have n1_ := Aside0.mk (below_step (by repeat (first | (with_reducible first | exact HB.out | apply below_alloc | apply pw_below_drewN | apply below_drew1 | refine below_set ?_ GE141.out) | exact HB.out)) hb); clear BK141; clear HB; have BK141 := n0_; have HB := n1_; clear n0_ n1_; (try clear hb); (try clear hb2); (try clear hk); (try clear hi); have hcz20_0 : w19.cell? ⟨gb141, 0, none⟩ = some (.bool true) := (blk_cell BK141.out 0).trans rfl; have hcz20_1 : w19.cell? ⟨gb141, 1, none⟩ = some (.slice (some ad143) l0_1.length c0_1) := (blk_cell BK141.out 1).trans rfl; have hcz20_2 : w19.cell? ⟨gb141, 2, none⟩ = some (.slice A0_2 l0_2.length c0_2) := (blk_cell BK141.out 2).trans rfl; have hcz20_3 : w19.cell? ⟨gb141, 3, none⟩ = some (.slice A0_3 l0_3.length c0_3) := (blk_cell BK141.out 3).trans rfl; have hfz20_0 := blk_frozen BK141.out 0; have hfz20_1 := blk_frozen BK141.out 1; have hfz20_2 := blk_frozen BK141.out 2; have hfz20_3 := blk_frozen BK141.out 3; have p145 : 0 ≤ (x4_2 : Int) := of_decide_eq_true (by with_reducible assumption); have q145 : x4_2 < (l0_2.length : Int) := of_decide_eq_true (by with_reducible assumption); obtain ⟨ad145, e145, hx145_0⟩ := Kd.at_string HR0_2.out x4_2 p145 q145; cases e145; replace hx145_0 := (HB.out.cell (World.block_lt_of_cell? w _ hx145_0)).trans hx145_0; replace p145 := eq_true p145; replace q145 := eq_true q145) | ((with_reducible refine gate_callee (f := 158) rfl ?_); refine goesL_ (some 36) rfl rfl Try.func158 (by kernel_rfl) rfl #[.string (rdOf ByteArray.empty l0_2 x4_2)] rfl (by (try simp only [List.map_toArray, List.map_cons, List.map_nil]); first | done | rfl | (simp only [List.length_drop, List.length_take]; rfl)) ?_; (with_reducible refine (spec_l04Short.calls k2 (rdOf ByteArray.empty l0_2 x4_2) t146 _ A16.out).mono ?_); rintro e w21 ⟨rfl, hb⟩; refine ⟨_, rfl, ?_⟩; have n0_ := Aside0.mk (blk_below (g := gb141) (o := .cells #[.bool true, .slice (some ad143) l0_1.length c0_1, .slice (some ad145) l0_2.length c0_2, .slice A0_3 l0_3.length c0_3] 68 (0, 0)) (by (with_reducible repeat (first | refine blk_drewN ?_ _ | refine blk_drew ?_ | refine blk_alloc ?_ _)); exact BK141.out) hb); have n1_ := Aside0.mk (below_step (by repeat (first | (with_reducible first | exact HB.out | apply below_alloc | apply pw_below_drewN | apply below_drew1 | refine below_set ?_ GE141.out) | exact HB.out)) hb); clear BK141; clear HB; have BK141 := n0_; have HB := n1_; clear n0_ n1_; (try clear hb); (try clear hb2); (try clear hk); (try clear hi)))
            go_roundg k2
            case measure => have := HJ1.out; have := HK2.out; omega
            case rel => exact ⟨((x3_2 ++ t144) ++ t146), (wrap64 (x4_2 + 1)), (by first | rfl | (simp; done) | (simp [*]; done)), (by first | rfl | (simp; done) | (simp [*]; done)), H', ⟨by have := HJ1.out; have := HK2.out; omega⟩, ⟨by (with_reducible repeat (first | refine blk_drewN ?_ _ | refine blk_drew ?_ | refine blk_alloc ?_ _)); exact BK141.out⟩, ⟨by repeat (first | (with_reducible first | exact HB.out | apply below_alloc | apply pw_below_drewN | apply below_drew1 | refine below_set ?_ GE141.out) | exact HB.out)⟩⟩
           ·rw [if_neg c17] at H
            exact absurd H (by simp)
          ·rw [if_neg c15] at H
           exact absurd H (by simp)
         ·replace c14 := Bool.eq_false_iff.mpr c14
          subst c14
          have H1 : (if x4_2 < (l0_3.length : Int) then ((spec_l01Var.f k2 (rd l0_3 x4_2)).bind fun t148 => (if (x3_2 ++ t144).size + t148.size ≤ 9223372036854775807 then (spec_l05Bytes.l0 k2 ((x3_2 ++ t144) ++ t148) (wrap64 (x4_2 + 1)) false l0_1 l0_2 l0_3) else (none))) else (none)) = some r := by rw [if_neg (show ¬ (false = true) by decide)] at H; exact H
          clear H
          have H := H1
          clear H1
          by_cases c22 : x4_2 < (l0_3.length : Int)
          ·rw [if_pos c22] at H
           have c22b0 : decide (x4_2 < (l0_3.length : Int)) = true := decide_eq_true c22
           clear c22
           replace H := Option.bind_eq_some_iff.mp H
           obtain ⟨t148, A230, H⟩ := H
           replace H : (if (x3_2 ++ t144).size + t148.size ≤ 9223372036854775807 then (spec_l05Bytes.l0 k2 ((x3_2 ++ t144) ++ t148) (wrap64 (x4_2 + 1)) false l0_1 l0_2 l0_3) else (none)) = some r := H
           have A23 := Aside0.mk A230
           clear A230
           by_cases c24 : (x3_2 ++ t144).size + t148.size ≤ 9223372036854775807
           ·rw [if_pos c24] at H
            have c24b0 := eq_true c24
            have c24b1 : decide ((x3_2 ++ t144).size + t148.size ≤ 9223372036854775807) = true := decide_eq_true c24
            try (have c24z1 := c24b1; simp only [ByteArray.size_append] at c24z1)
            try (have c24y1 := c24b1; simp only [ByteArray.size_append, Int.natCast_add] at c24y1)
            try have c24b2 : (9223372036854775807 < (x3_2 ++ t144).size + t148.size) = False := eq_false (Nat.not_lt.2 c24)
            try (have c24b3 := c24b2; simp only [ByteArray.size_append] at c24b3)
            have H' := Aside0.mk H
            clear H
            have hcz25_0 : wr.cell? ⟨gb141, 0, none⟩ = some (.bool false) := (blk_cell BK141.out 0).trans rfl
            have hcz25_1 : wr.cell? ⟨gb141, 1, none⟩ = some (.slice A0_1 l0_1.length c0_1) := (blk_cell BK141.out 1).trans rfl
            have hcz25_2 : wr.cell? ⟨gb141, 2, none⟩ = some (.slice A0_2 l0_2.length c0_2) := (blk_cell BK141.out 2).trans rfl
            have hcz25_3 : wr.cell? ⟨gb141, 3, none⟩ = some (.slice A0_3 l0_3.length c0_3) := (blk_cell BK141.out 3).trans rfl
            have hfz25_0 := blk_frozen BK141.out 0
            have hfz25_1 := blk_frozen BK141.out 1
            have hfz25_2 := blk_frozen BK141.out 2
            have hfz25_3 := blk_frozen BK141.out 3
            have p143 : 0 ≤ (x4_2 : Int) := of_decide_eq_true (by with_reducible assumption)
            have q143 : x4_2 < (l0_1.length : Int) := of_decide_eq_true (by with_reducible assumption)
            obtain ⟨ad143, e143, hx143_0⟩ := Kd.at_string HR0_1.out x4_2 p143 q143
            cases e143
            replace hx143_0 := (HB.out.cell (World.block_lt_of_cell? w _ hx143_0)).trans hx143_0
            replace p143 := eq_true p143
            replace q143 := eq_true q143
            go_wp2_with (first | ((with_reducible refine gate_callee (f := 158) rfl ?_); refine goesL_ (some 26) rfl rfl Try.func158 (by kernel_rfl) rfl #[.string (rdOf ByteArray.empty l0_1 x4_2)] rfl (by (try simp only [List.map_toArray, List.map_cons, List.map_nil]); first | done | rfl | (simp only [List.length_drop, List.length_take]; rfl)) ?_; (with_reducible refine (spec_l04Short.calls k2 (rdOf ByteArray.empty l0_1 x4_2) t144 _ A12.out).mono ?_); rintro e w26 ⟨rfl, hb⟩; refine ⟨_, rfl, ?_⟩; have n0_ := Aside0.mk (blk_below (g := gb141) (o := .cells #[.bool false, .slice (some ad143) l0_1.length c0_1, .slice A0_2 l0_2.length c0_2, .slice A0_3 l0_3.length c0_3] 68 (0, 0)) (by (with_reducible repeat (first | refine blk_drewN ?_ _ | refine blk_drew ?_ | refine blk_alloc ?_ _)); exact BK141.out) hb); have n1_ := Aside0.mk (below_step (by repeat (first | (with_reducible first | exact HB.out | apply below_alloc | apply pw_below_drewN | apply below_drew1 | refine below_set ?_ GE141.out) | exact HB.out)) hb); clear BK141; clear HB; have BK141 := n0_; have HB := n1_; clear n0_ n1_; (try clear hb); (try clear hb2); (try clear hk); (try clear hi); have hcz27_0 : w26.cell? ⟨gb141, 0, none⟩ = some (.bool false) := (blk_cell BK141.out 0).trans rfl; have hcz27_1 : w26.cell? ⟨gb141, 1, none⟩ = some (.slice (some ad143) l0_1.length c0_1) := (blk_cell BK141.out 1).trans rfl; have hcz27_2 : w26.cell? ⟨gb141, 2, none⟩ = some (.slice A0_2 l0_2.length c0_2) := (blk_cell BK141.out 2).trans rfl; have hcz27_3 : w26.cell? ⟨gb141, 3, none⟩ = some (.slice A0_3 l0_3.length c0_3) := (blk_cell BK141.out 3).trans rfl; have hfz27_0 := blk_frozen BK141.out 0; have hfz27_1 := blk_frozen BK141.out 1; have hfz27_2 := blk_frozen BK141.out 2; have hfz27_3 := blk_frozen BK141.out 3; have p147 : 0 ≤ (x4_2 : Int) := of_decide_eq_true (by with_reducible assumption); have q147 : x4_2 < (l0_3.length : Int) := of_decide_eq_true (by with_reducible assumption); obtain ⟨ad147, e147, hx147_0⟩ := Kd.at_int HR0_3.out x4_2 p147 q147; cases e147; replace hx147_0 := (HB.out.cell (World.block_lt_of_cell? w _ hx147_0)).trans hx147_0; replace p147 := eq_true p147; replace q147 := eq_true q147) | ((with_reducible refine gate_callee (f := 71) rfl ?_); refine goesL_ (some 44) rfl rfl Try.func71 (by kernel_rfl) rfl #[.int .i64 (rd l0_3 x4_2)] rfl (by (try simp only [List.map_toArray, List.map_cons, List.map_nil]); first | done | rfl | (simp only [List.length_drop, List.length_take]; rfl)) ?_; (with_reducible refine (spec_l01Var.calls k2 (rd l0_3 x4_2) t148 _ A23.out).mono ?_); rintro e w28 ⟨rfl, hb⟩; refine ⟨_, rfl, ?_⟩; have n0_ := Aside0.mk (blk_below (g := gb141) (o := .cells #[.bool false, .slice (some ad143) l0_1.length c0_1, .slice A0_2 l0_2.length c0_2, .slice (some ad147) l0_3.length c0_3] 68 (0, 0)) (by (with_reducible repeat (first | refine blk_drewN ?_ _ | refine blk_drew ?_ | refine blk_alloc ?_ _)); exact BK141.out) hb); have n1_ := Aside0.mk (below_step (by repeat (first | (with_reducible first | exact HB.out | apply below_alloc | apply pw_below_drewN | apply below_drew1 | refine below_set ?_ GE141.out) | exact HB.out)) hb); clear BK141; clear HB; have BK141 := n0_; have HB := n1_; clear n0_ n1_; (try clear hb); (try clear hb2); (try clear hk); (try clear hi)))
            go_roundg k2
            case measure => have := HJ1.out; have := HK2.out; omega
            case rel => exact ⟨((x3_2 ++ t144) ++ t148), (wrap64 (x4_2 + 1)), (by first | rfl | (simp; done) | (simp [*]; done)), (by first | rfl | (simp; done) | (simp [*]; done)), H', ⟨by have := HJ1.out; have := HK2.out; omega⟩, ⟨by (with_reducible repeat (first | refine blk_drewN ?_ _ | refine blk_drew ?_ | refine blk_alloc ?_ _)); exact BK141.out⟩, ⟨by repeat (first | (with_reducible first | exact HB.out | apply below_alloc | apply pw_below_drewN | apply below_drew1 | refine below_set ?_ GE141.out) | exact HB.out)⟩⟩
           ·rw [if_neg c24] at H
            exact absurd H (by simp)
          ·rw [if_neg c22] at H
           exact absurd H (by simp)
        ·rw [if_neg c13] at H
         exact absurd H (by simp)
       ·rw [if_neg c11] at H
        exact absurd H (by simp)
      ·rw [if_neg c10] at H
       have c10b0 : decide (x4_2 < (l0_1.length : Int)) = false := decide_eq_false c10
       clear c10
       obtain rfl := Option.some.inj H
       have hcz29_0 : wr.cell? ⟨gb141, 0, none⟩ = some (.bool a0_0) := (blk_cell BK141.out 0).trans rfl
       have hcz29_1 : wr.cell? ⟨gb141, 1, none⟩ = some (.slice A0_1 l0_1.length c0_1) := (blk_cell BK141.out 1).trans rfl
       have hcz29_2 : wr.cell? ⟨gb141, 2, none⟩ = some (.slice A0_2 l0_2.length c0_2) := (blk_cell BK141.out 2).trans rfl
       have hcz29_3 : wr.cell? ⟨gb141, 3, none⟩ = some (.slice A0_3 l0_3.length c0_3) := (blk_cell BK141.out 3).trans rfl
       have hfz29_0 := blk_frozen BK141.out 0
       have hfz29_1 := blk_frozen BK141.out 1
       have hfz29_2 := blk_frozen BK141.out 2
       have hfz29_3 := blk_frozen BK141.out 3
       go_wp2
       go_ret
       exact ⟨by first | rfl | (simp [errW_none, errW_some] <;> rfl) | (simp [*, errW_none, errW_some] <;> rfl), by repeat (first | (with_reducible first | exact HB.out | apply below_alloc | apply pw_below_drewN | apply below_drew1 | refine below_set ?_ GE141.out) | exact HB.out)⟩
   ·rw [if_neg c7] at H
    exact absurd H (by simp)
def spec_NodeText.f (k : Nat) (a0_0 : Bool) (l0_1 : List ByteArray) (l0_2 : List ByteArray) (l0_3 : List Int) : Option (ByteArray × Bool) := (spec_NodeOk.f k a0_0 l0_1 l0_2 l0_3).bind fun t150 => (if t150 = true then ((spec_l05Bytes.f k a0_0 l0_1 l0_2 l0_3).bind fun t151 => ((spec_Sealed.f k t151).bind fun bt152 => (some (bt152.1, bt152.2)))) else (some ((⟨#[]⟩ : ByteArray), false)))
theorem spec_NodeText.mono : ∀ a0 a1 a2 a3 k, LeO (spec_NodeText.f k a0 a1 a2 a3) (spec_NodeText.f (k + 1) a0 a1 a2 a3) := by
 intro a0 a1 a2 a3 k
 unfold spec_NodeText.f
 repeat' first
   | (with_reducible exact spec_NodeOk.mono _ _ _ _ _)
   | (with_reducible exact spec_Sealed.mono _ _)
   | (with_reducible exact spec_l05Bytes.mono _ _ _ _ _)
   | (with_reducible exact LeO.refl _)
   | (with_reducible exact LeO.none _)
   | (with_reducible refine LeO.ite ?_ ?_)
   | (with_reducible refine LeO.bind ?_ (fun _ => ?_))
   | exact spec_NodeOk.mono _ _ _ _ _
   | exact spec_Sealed.mono _ _
   | exact spec_l05Bytes.mono _ _ _ _ _
theorem spec_NodeText.calls (k : Nat) (a0_0 : Bool) (A0_1 : Option Addr) (c0_1 : Nat) (l0_1 : List ByteArray) (A0_2 : Option Addr) (c0_2 : Nat) (l0_2 : List ByteArray) (A0_3 : Option Addr) (c0_3 : Nat) (l0_3 : List Int) (r1 : ByteArray) (r2 : Bool) (w : World) (hr0_1 : Kd.C Kd.string w A0_1 l0_1.length l0_1) (hc0_1 : l0_1.length ≤ c0_1) (hr0_2 : Kd.C Kd.string w A0_2 l0_2.length l0_2) (hc0_2 : l0_2.length ≤ c0_2) (hr0_3 : Kd.C (Kd.int .i64) w A0_3 l0_3.length l0_3) (hc0_3 : l0_3.length ≤ c0_3) (h : spec_NodeText.f k a0_0 l0_1 l0_2 l0_3 = some (r1, r2)) :
  Calls Try.prog 92 #[.agg #[.bool a0_0, .slice A0_1 l0_1.length c0_1, .slice A0_2 l0_2.length c0_2, .slice A0_3 l0_3.length c0_3]] w fun e w' => e = .returned (.tuple #[.string r1, .bool r2]) ∧ Below w.heap.size w w' := by
 have hu68 := Try.underlying68
 have HR0_1 := Aside0.mk hr0_1
 have HC0_1 := Aside0.mk hc0_1
 clear hr0_1 hc0_1
 have HR0_2 := Aside0.mk hr0_2
 have HC0_2 := Aside0.mk hc0_2
 clear hr0_2 hc0_2
 have HR0_3 := Aside0.mk hr0_3
 have HC0_3 := Aside0.mk hc0_3
 clear hr0_3 hc0_3
 have HB := Aside0.mk (Below.refl w.heap.size w)
 have H : ((spec_NodeOk.f k a0_0 l0_1 l0_2 l0_3).bind fun t150 => (if t150 = true then ((spec_l05Bytes.f k a0_0 l0_1 l0_2 l0_3).bind fun t151 => ((spec_Sealed.f k t151).bind fun bt152 => (some (bt152.1, bt152.2)))) else (some ((⟨#[]⟩ : ByteArray), false)))) = some (r1, r2) := h
 clear h
 replace H := Option.bind_eq_some_iff.mp H
 obtain ⟨t150, A20, H⟩ := H
 replace H : (if t150 = true then ((spec_l05Bytes.f k a0_0 l0_1 l0_2 l0_3).bind fun t151 => ((spec_Sealed.f k t151).bind fun bt152 => (some (bt152.1, bt152.2)))) else (some ((⟨#[]⟩ : ByteArray), false))) = some (r1, r2) := H
 have A2 := Aside0.mk A20
 clear A20
 by_cases c3 : t150 = true
 ·subst c3
  have H1 : ((spec_l05Bytes.f k a0_0 l0_1 l0_2 l0_3).bind fun t151 => ((spec_Sealed.f k t151).bind fun bt152 => (some (bt152.1, bt152.2)))) = some (r1, r2) := by rw [if_pos rfl] at H; exact H
  clear H
  have H := H1
  clear H1
  replace H := Option.bind_eq_some_iff.mp H
  obtain ⟨t151, A40, H⟩ := H
  replace H : ((spec_Sealed.f k t151).bind fun bt152 => (some (bt152.1, bt152.2))) = some (r1, r2) := H
  have A4 := Aside0.mk A40
  clear A40
  replace H := Option.bind_eq_some_iff.mp H
  obtain ⟨⟨t152, t153⟩, A50, H⟩ := H
  replace H : (some (t152, t153)) = some (r1, r2) := H
  have A5 := Aside0.mk A50
  clear A50
  simp only [Option.some.injEq, Prod.mk.injEq] at H
  obtain ⟨rfl, rfl⟩ := H
  go_enter Try.func92, Try.ntmps92
  go_wp2_with (first | ((with_reducible refine gate_dst (N := 1) rfl ?_); refine box_event ?hg (N := 1) ?hd (cs := #[.bool a0_0, .slice A0_1 l0_1.length c0_1, .slice A0_2 l0_2.length c0_2, .slice A0_3 l0_3.length c0_3]) (t := 68) ?hr ?_; (case hd => rfl); (case hg => rfl); (case hr => first | (go_simp; done) | (go_simp; rfl)); intro gb149 hg w6 hbox hb; have n0_ := Aside0.mk (below_step (by repeat (first | (with_reducible first | exact HB.out | apply below_alloc | apply pw_below_drewN | apply below_drew1) | exact HB.out)) hb); have n1_ := Aside0.mk (hbox); have n2_ := Aside0.mk ((by rw [hg]; exact (below_size (by repeat (first | (with_reducible first | exact HB.out | apply below_alloc | apply pw_below_drewN | apply below_drew1) | exact HB.out))) : w.heap.size ≤ gb149)); have n3_ := Aside0.mk ((by rw [hg]; exact (below_size (by repeat (first | (with_reducible first | exact HB.out | apply below_alloc | apply pw_below_drewN | apply below_drew1) | exact HB.out))) : w.heap.size ≤ gb149)); clear HB; have HB := n0_; have BK149 := n1_; have GW149 := n2_; have GE149 := n3_; clear n0_ n1_ n2_ n3_; clear hb hbox hg; have hcz7_0 : w6.cell? ⟨gb149, 0, none⟩ = some (.bool a0_0) := (blk_cell BK149.out 0).trans rfl; have hcz7_1 : w6.cell? ⟨gb149, 1, none⟩ = some (.slice A0_1 l0_1.length c0_1) := (blk_cell BK149.out 1).trans rfl; have hcz7_2 : w6.cell? ⟨gb149, 2, none⟩ = some (.slice A0_2 l0_2.length c0_2) := (blk_cell BK149.out 2).trans rfl; have hcz7_3 : w6.cell? ⟨gb149, 3, none⟩ = some (.slice A0_3 l0_3.length c0_3) := (blk_cell BK149.out 3).trans rfl; have hfz7_0 := blk_frozen BK149.out 0; have hfz7_1 := blk_frozen BK149.out 1; have hfz7_2 := blk_frozen BK149.out 2; have hfz7_3 := blk_frozen BK149.out 3) | ((with_reducible refine gate_callee (f := 31) rfl ?_); refine goesL_ (some 5) rfl rfl Try.func31 (by kernel_rfl) rfl #[.agg #[.bool a0_0, .slice A0_1 l0_1.length c0_1, .slice A0_2 l0_2.length c0_2, .slice A0_3 l0_3.length c0_3]] rfl (by (try simp only [List.map_toArray, List.map_cons, List.map_nil]); first | done | rfl | (simp only [List.length_drop, List.length_take]; rfl)) ?_; (with_reducible refine (spec_NodeOk.calls k a0_0 _ _ l0_1 _ _ l0_2 _ _ l0_3 true _ ?side1 ?side2 ?side3 ?side4 ?side5 ?side6 A2.out).mono ?_); (case side1 => repeat (first | exact (Kd.C_below HR0_1.out HB.out) | (with_reducible refine Kd.C_alloc ?_ _) | (with_reducible refine Kd.C_drewN ?_ _) | (with_reducible refine Kd.C_drew ?_))); (case side2 => exact HC0_1.out); (case side3 => repeat (first | exact (Kd.C_below HR0_2.out HB.out) | (with_reducible refine Kd.C_alloc ?_ _) | (with_reducible refine Kd.C_drewN ?_ _) | (with_reducible refine Kd.C_drew ?_))); (case side4 => exact HC0_2.out); (case side5 => repeat (first | exact (Kd.C_below HR0_3.out HB.out) | (with_reducible refine Kd.C_alloc ?_ _) | (with_reducible refine Kd.C_drewN ?_ _) | (with_reducible refine Kd.C_drew ?_))); (case side6 => exact HC0_3.out); rintro e w8 ⟨rfl, hb⟩; refine ⟨_, rfl, ?_⟩; have n0_ := Aside0.mk (blk_below (g := gb149) (o := .cells #[.bool a0_0, .slice A0_1 l0_1.length c0_1, .slice A0_2 l0_2.length c0_2, .slice A0_3 l0_3.length c0_3] 68 (0, 0)) (by (with_reducible repeat (first | refine blk_drewN ?_ _ | refine blk_drew ?_ | refine blk_alloc ?_ _)); exact BK149.out) hb); have n1_ := Aside0.mk (below_step (by repeat (first | (with_reducible first | exact HB.out | apply below_alloc | apply pw_below_drewN | apply below_drew1 | refine below_set ?_ GE149.out) | exact HB.out)) hb); clear BK149; clear HB; have BK149 := n0_; have HB := n1_; clear n0_ n1_; (try clear hb); (try clear hb2); (try clear hk); (try clear hi); have hcz9_0 : w8.cell? ⟨gb149, 0, none⟩ = some (.bool a0_0) := (blk_cell BK149.out 0).trans rfl; have hcz9_1 : w8.cell? ⟨gb149, 1, none⟩ = some (.slice A0_1 l0_1.length c0_1) := (blk_cell BK149.out 1).trans rfl; have hcz9_2 : w8.cell? ⟨gb149, 2, none⟩ = some (.slice A0_2 l0_2.length c0_2) := (blk_cell BK149.out 2).trans rfl; have hcz9_3 : w8.cell? ⟨gb149, 3, none⟩ = some (.slice A0_3 l0_3.length c0_3) := (blk_cell BK149.out 3).trans rfl; have hfz9_0 := blk_frozen BK149.out 0; have hfz9_1 := blk_frozen BK149.out 1; have hfz9_2 := blk_frozen BK149.out 2; have hfz9_3 := blk_frozen BK149.out 3) | ((with_reducible refine gate_callee (f := 137) rfl ?_); refine goesL_ (some 8) rfl rfl Try.func137 (by kernel_rfl) rfl #[.agg #[.bool a0_0, .slice A0_1 l0_1.length c0_1, .slice A0_2 l0_2.length c0_2, .slice A0_3 l0_3.length c0_3]] rfl (by (try simp only [List.map_toArray, List.map_cons, List.map_nil]); first | done | rfl | (simp only [List.length_drop, List.length_take]; rfl)) ?_; (with_reducible refine (spec_l05Bytes.calls k a0_0 _ _ l0_1 _ _ l0_2 _ _ l0_3 t151 _ ?side1 ?side2 ?side3 ?side4 ?side5 ?side6 A4.out).mono ?_); (case side1 => repeat (first | exact (Kd.C_below HR0_1.out HB.out) | (with_reducible refine Kd.C_alloc ?_ _) | (with_reducible refine Kd.C_drewN ?_ _) | (with_reducible refine Kd.C_drew ?_))); (case side2 => exact HC0_1.out); (case side3 => repeat (first | exact (Kd.C_below HR0_2.out HB.out) | (with_reducible refine Kd.C_alloc ?_ _) | (with_reducible refine Kd.C_drewN ?_ _) | (with_reducible refine Kd.C_drew ?_))); (case side4 => exact HC0_2.out); (case side5 => repeat (first | exact (Kd.C_below HR0_3.out HB.out) | (with_reducible refine Kd.C_alloc ?_ _) | (with_reducible refine Kd.C_drewN ?_ _) | (with_reducible refine Kd.C_drew ?_))); (case side6 => exact HC0_3.out); rintro e w10 ⟨rfl, hb⟩; refine ⟨_, rfl, ?_⟩; have n0_ := Aside0.mk (blk_below (g := gb149) (o := .cells #[.bool a0_0, .slice A0_1 l0_1.length c0_1, .slice A0_2 l0_2.length c0_2, .slice A0_3 l0_3.length c0_3] 68 (0, 0)) (by (with_reducible repeat (first | refine blk_drewN ?_ _ | refine blk_drew ?_ | refine blk_alloc ?_ _)); exact BK149.out) hb); have n1_ := Aside0.mk (below_step (by repeat (first | (with_reducible first | exact HB.out | apply below_alloc | apply pw_below_drewN | apply below_drew1 | refine below_set ?_ GE149.out) | exact HB.out)) hb); clear BK149; clear HB; have BK149 := n0_; have HB := n1_; clear n0_ n1_; (try clear hb); (try clear hb2); (try clear hk); (try clear hi)) | ((with_reducible refine gate_callee (f := 72) rfl ?_); refine goesL_ (some 9) rfl rfl Try.func72 (by kernel_rfl) rfl #[.string t151] rfl (by (try simp only [List.map_toArray, List.map_cons, List.map_nil]); first | done | rfl | (simp only [List.length_drop, List.length_take]; rfl)) ?_; (with_reducible refine (spec_Sealed.calls k t151 t152 t153 _ A5.out).mono ?_); rintro e w11 ⟨rfl, hb⟩; refine ⟨_, rfl, ?_⟩; have n0_ := Aside0.mk (blk_below (g := gb149) (o := .cells #[.bool a0_0, .slice A0_1 l0_1.length c0_1, .slice A0_2 l0_2.length c0_2, .slice A0_3 l0_3.length c0_3] 68 (0, 0)) (by (with_reducible repeat (first | refine blk_drewN ?_ _ | refine blk_drew ?_ | refine blk_alloc ?_ _)); exact BK149.out) hb); have n1_ := Aside0.mk (below_step (by repeat (first | (with_reducible first | exact HB.out | apply below_alloc | apply pw_below_drewN | apply below_drew1 | refine below_set ?_ GE149.out) | exact HB.out)) hb); clear BK149; clear HB; have BK149 := n0_; have HB := n1_; clear n0_ n1_; (try clear hb); (try clear hb2); (try clear hk); (try clear hi)))
  go_ret2
  exact ⟨by first | rfl | (simp [errW_none, errW_some] <;> rfl) | (simp [*, errW_none, errW_some] <;> rfl), by repeat (first | (with_reducible first | exact HB.out | apply below_alloc | apply pw_below_drewN | apply below_drew1 | refine below_set ?_ GE149.out) | exact HB.out)⟩
 ·replace c3 := Bool.eq_false_iff.mpr c3
  subst c3
  have H1 : (some ((⟨#[]⟩ : ByteArray), false)) = some (r1, r2) := by rw [if_neg (show ¬ (false = true) by decide)] at H; exact H
  clear H
  have H := H1
  clear H1
  simp only [Option.some.injEq, Prod.mk.injEq] at H
  obtain ⟨rfl, rfl⟩ := H
  go_enter Try.func92, Try.ntmps92
  go_wp2_with (first | ((with_reducible refine gate_dst (N := 1) rfl ?_); refine box_event ?hg (N := 1) ?hd (cs := #[.bool a0_0, .slice A0_1 l0_1.length c0_1, .slice A0_2 l0_2.length c0_2, .slice A0_3 l0_3.length c0_3]) (t := 68) ?hr ?_; (case hd => rfl); (case hg => rfl); (case hr => first | (go_simp; done) | (go_simp; rfl)); intro gb149 hg w12 hbox hb; have n0_ := Aside0.mk (below_step (by repeat (first | (with_reducible first | exact HB.out | apply below_alloc | apply pw_below_drewN | apply below_drew1) | exact HB.out)) hb); have n1_ := Aside0.mk (hbox); have n2_ := Aside0.mk ((by rw [hg]; exact (below_size (by repeat (first | (with_reducible first | exact HB.out | apply below_alloc | apply pw_below_drewN | apply below_drew1) | exact HB.out))) : w.heap.size ≤ gb149)); have n3_ := Aside0.mk ((by rw [hg]; exact (below_size (by repeat (first | (with_reducible first | exact HB.out | apply below_alloc | apply pw_below_drewN | apply below_drew1) | exact HB.out))) : w.heap.size ≤ gb149)); clear HB; have HB := n0_; have BK149 := n1_; have GW149 := n2_; have GE149 := n3_; clear n0_ n1_ n2_ n3_; clear hb hbox hg; have hcz13_0 : w12.cell? ⟨gb149, 0, none⟩ = some (.bool a0_0) := (blk_cell BK149.out 0).trans rfl; have hcz13_1 : w12.cell? ⟨gb149, 1, none⟩ = some (.slice A0_1 l0_1.length c0_1) := (blk_cell BK149.out 1).trans rfl; have hcz13_2 : w12.cell? ⟨gb149, 2, none⟩ = some (.slice A0_2 l0_2.length c0_2) := (blk_cell BK149.out 2).trans rfl; have hcz13_3 : w12.cell? ⟨gb149, 3, none⟩ = some (.slice A0_3 l0_3.length c0_3) := (blk_cell BK149.out 3).trans rfl; have hfz13_0 := blk_frozen BK149.out 0; have hfz13_1 := blk_frozen BK149.out 1; have hfz13_2 := blk_frozen BK149.out 2; have hfz13_3 := blk_frozen BK149.out 3) | ((with_reducible refine gate_callee (f := 31) rfl ?_); refine goesL_ (some 5) rfl rfl Try.func31 (by kernel_rfl) rfl #[.agg #[.bool a0_0, .slice A0_1 l0_1.length c0_1, .slice A0_2 l0_2.length c0_2, .slice A0_3 l0_3.length c0_3]] rfl (by (try simp only [List.map_toArray, List.map_cons, List.map_nil]); first | done | rfl | (simp only [List.length_drop, List.length_take]; rfl)) ?_; (with_reducible refine (spec_NodeOk.calls k a0_0 _ _ l0_1 _ _ l0_2 _ _ l0_3 false _ ?side1 ?side2 ?side3 ?side4 ?side5 ?side6 A2.out).mono ?_); (case side1 => repeat (first | exact (Kd.C_below HR0_1.out HB.out) | (with_reducible refine Kd.C_alloc ?_ _) | (with_reducible refine Kd.C_drewN ?_ _) | (with_reducible refine Kd.C_drew ?_))); (case side2 => exact HC0_1.out); (case side3 => repeat (first | exact (Kd.C_below HR0_2.out HB.out) | (with_reducible refine Kd.C_alloc ?_ _) | (with_reducible refine Kd.C_drewN ?_ _) | (with_reducible refine Kd.C_drew ?_))); (case side4 => exact HC0_2.out); (case side5 => repeat (first | exact (Kd.C_below HR0_3.out HB.out) | (with_reducible refine Kd.C_alloc ?_ _) | (with_reducible refine Kd.C_drewN ?_ _) | (with_reducible refine Kd.C_drew ?_))); (case side6 => exact HC0_3.out); rintro e w14 ⟨rfl, hb⟩; refine ⟨_, rfl, ?_⟩; have n0_ := Aside0.mk (blk_below (g := gb149) (o := .cells #[.bool a0_0, .slice A0_1 l0_1.length c0_1, .slice A0_2 l0_2.length c0_2, .slice A0_3 l0_3.length c0_3] 68 (0, 0)) (by (with_reducible repeat (first | refine blk_drewN ?_ _ | refine blk_drew ?_ | refine blk_alloc ?_ _)); exact BK149.out) hb); have n1_ := Aside0.mk (below_step (by repeat (first | (with_reducible first | exact HB.out | apply below_alloc | apply pw_below_drewN | apply below_drew1 | refine below_set ?_ GE149.out) | exact HB.out)) hb); clear BK149; clear HB; have BK149 := n0_; have HB := n1_; clear n0_ n1_; (try clear hb); (try clear hb2); (try clear hk); (try clear hi)))
  go_ret2
  exact ⟨by first | rfl | (simp [errW_none, errW_some] <;> rfl) | (simp [*, errW_none, errW_some] <;> rfl), by repeat (first | (with_reducible first | exact HB.out | apply below_alloc | apply pw_below_drewN | apply below_drew1 | refine below_set ?_ GE149.out) | exact HB.out)⟩
def spec_ReadShort.f (k : Nat) (a0 : ByteArray) (a1 : Int) : Option (ByteArray × Int × Bool) := (spec_ReadVar.f k a0 a1).bind fun bt154 => (if bt154.2.2 = true then (if bt154.1 > 20000 then (some ((⟨#[]⟩ : ByteArray), 0, false)) else (if bt154.1 > (wrap64 ((a0.size : Int) - bt154.2.1)) then (some ((⟨#[]⟩ : ByteArray), 0, false)) else (if 0 ≤ bt154.2.1 then (if bt154.2.1 ≤ (wrap64 (bt154.2.1 + bt154.1)) then (if (wrap64 (bt154.2.1 + bt154.1)) ≤ (a0.size : Int) then (some (a0.extract (bt154.2.1 : Int).toNat ((wrap64 (bt154.2.1 + bt154.1)) : Int).toNat, wrap64 (bt154.2.1 + bt154.1), true)) else (none)) else (none)) else (none)))) else (some ((⟨#[]⟩ : ByteArray), 0, false)))
theorem spec_ReadShort.mono : ∀ a0 a1 k, LeO (spec_ReadShort.f k a0 a1) (spec_ReadShort.f (k + 1) a0 a1) := by
 intro a0 a1 k
 unfold spec_ReadShort.f
 repeat' first
   | (with_reducible exact spec_ReadVar.mono _ _ _)
   | (with_reducible exact LeO.refl _)
   | (with_reducible exact LeO.none _)
   | (with_reducible refine LeO.ite ?_ ?_)
   | (with_reducible refine LeO.bind ?_ (fun _ => ?_))
   | exact spec_ReadVar.mono _ _ _
theorem spec_ReadShort.calls (k : Nat) (a0 : ByteArray) (a1 : Int) (r1 : ByteArray) (r2 : Int) (r3 : Bool) (w : World) (h : spec_ReadShort.f k a0 a1 = some (r1, r2, r3)) :
  Calls Try.prog 138 #[.string a0, .int .i64 a1] w fun e w' => e = .returned (.tuple #[.string r1, .int .i64 r2, .bool r3]) ∧ Below w.heap.size w w' := by
 have HB := Aside0.mk (Below.refl w.heap.size w)
 have H : ((spec_ReadVar.f k a0 a1).bind fun bt154 => (if bt154.2.2 = true then (if bt154.1 > 20000 then (some ((⟨#[]⟩ : ByteArray), 0, false)) else (if bt154.1 > (wrap64 ((a0.size : Int) - bt154.2.1)) then (some ((⟨#[]⟩ : ByteArray), 0, false)) else (if 0 ≤ bt154.2.1 then (if bt154.2.1 ≤ (wrap64 (bt154.2.1 + bt154.1)) then (if (wrap64 (bt154.2.1 + bt154.1)) ≤ (a0.size : Int) then (some (a0.extract (bt154.2.1 : Int).toNat ((wrap64 (bt154.2.1 + bt154.1)) : Int).toNat, wrap64 (bt154.2.1 + bt154.1), true)) else (none)) else (none)) else (none)))) else (some ((⟨#[]⟩ : ByteArray), 0, false)))) = some (r1, r2, r3) := h
 clear h
 replace H := Option.bind_eq_some_iff.mp H
 obtain ⟨⟨t154, t155, t156⟩, A30, H⟩ := H
 replace H : (if t156 = true then (if t154 > 20000 then (some ((⟨#[]⟩ : ByteArray), 0, false)) else (if t154 > (wrap64 ((a0.size : Int) - t155)) then (some ((⟨#[]⟩ : ByteArray), 0, false)) else (if 0 ≤ t155 then (if t155 ≤ (wrap64 (t155 + t154)) then (if (wrap64 (t155 + t154)) ≤ (a0.size : Int) then (some (a0.extract (t155 : Int).toNat ((wrap64 (t155 + t154)) : Int).toNat, wrap64 (t155 + t154), true)) else (none)) else (none)) else (none)))) else (some ((⟨#[]⟩ : ByteArray), 0, false))) = some (r1, r2, r3) := H
 have A3 := Aside0.mk A30
 clear A30
 by_cases c4 : t156 = true
 ·subst c4
  have H1 : (if t154 > 20000 then (some ((⟨#[]⟩ : ByteArray), 0, false)) else (if t154 > (wrap64 ((a0.size : Int) - t155)) then (some ((⟨#[]⟩ : ByteArray), 0, false)) else (if 0 ≤ t155 then (if t155 ≤ (wrap64 (t155 + t154)) then (if (wrap64 (t155 + t154)) ≤ (a0.size : Int) then (some (a0.extract (t155 : Int).toNat ((wrap64 (t155 + t154)) : Int).toNat, wrap64 (t155 + t154), true)) else (none)) else (none)) else (none)))) = some (r1, r2, r3) := by rw [if_pos rfl] at H; exact H
  clear H
  have H := H1
  clear H1
  by_cases c5 : t154 > 20000
  ·rw [if_pos c5] at H
   have c5b0 : decide (20000 < t154) = true := decide_eq_true c5
   clear c5
   simp only [Option.some.injEq, Prod.mk.injEq] at H
   obtain ⟨rfl, rfl, rfl⟩ := H
   go_enter Try.func138, Try.ntmps138
   go_wp2_with (first | ((with_reducible refine gate_callee (f := 131) rfl ?_); refine goesL_ (some 13) rfl rfl Try.func131 (by kernel_rfl) rfl #[.string a0, .int .i64 a1] rfl (by (try simp only [List.map_toArray, List.map_cons, List.map_nil]); first | done | rfl | (simp only [List.length_drop, List.length_take]; rfl)) ?_; (with_reducible refine (spec_ReadVar.calls k a0 a1 t154 t155 true _ A3.out).mono ?_); rintro e w6 ⟨rfl, hb⟩; refine ⟨_, rfl, ?_⟩; have n0_ := Aside0.mk (below_step (by repeat (first | (with_reducible first | exact HB.out | apply below_alloc | apply pw_below_drewN | apply below_drew1) | exact HB.out)) hb); clear HB; have HB := n0_; clear n0_; (try clear hb); (try clear hb2); (try clear hk); (try clear hi)))
   go_ret3
   exact ⟨by first | rfl | (simp [errW_none, errW_some] <;> rfl) | (simp [*, errW_none, errW_some] <;> rfl), by repeat (first | (with_reducible first | exact HB.out | apply below_alloc | apply pw_below_drewN | apply below_drew1) | exact HB.out)⟩
  ·rw [if_neg c5] at H
   have c5b0 : decide (20000 < t154) = false := decide_eq_false c5
   clear c5
   by_cases c7 : t154 > (wrap64 ((a0.size : Int) - t155))
   ·rw [if_pos c7] at H
    have c7b0 : decide ((wrap64 ((a0.size : Int) - t155)) < t154) = true := decide_eq_true c7
    clear c7
    simp only [Option.some.injEq, Prod.mk.injEq] at H
    obtain ⟨rfl, rfl, rfl⟩ := H
    go_enter Try.func138, Try.ntmps138
    go_wp2_with (first | ((with_reducible refine gate_callee (f := 131) rfl ?_); refine goesL_ (some 13) rfl rfl Try.func131 (by kernel_rfl) rfl #[.string a0, .int .i64 a1] rfl (by (try simp only [List.map_toArray, List.map_cons, List.map_nil]); first | done | rfl | (simp only [List.length_drop, List.length_take]; rfl)) ?_; (with_reducible refine (spec_ReadVar.calls k a0 a1 t154 t155 true _ A3.out).mono ?_); rintro e w8 ⟨rfl, hb⟩; refine ⟨_, rfl, ?_⟩; have n0_ := Aside0.mk (below_step (by repeat (first | (with_reducible first | exact HB.out | apply below_alloc | apply pw_below_drewN | apply below_drew1) | exact HB.out)) hb); clear HB; have HB := n0_; clear n0_; (try clear hb); (try clear hb2); (try clear hk); (try clear hi)))
    go_ret3
    exact ⟨by first | rfl | (simp [errW_none, errW_some] <;> rfl) | (simp [*, errW_none, errW_some] <;> rfl), by repeat (first | (with_reducible first | exact HB.out | apply below_alloc | apply pw_below_drewN | apply below_drew1) | exact HB.out)⟩
   ·rw [if_neg c7] at H
    have c7b0 : decide ((wrap64 ((a0.size : Int) - t155)) < t154) = false := decide_eq_false c7
    clear c7
    by_cases c9 : 0 ≤ t155
    ·rw [if_pos c9] at H
     have c9b0 := eq_true c9
     have c9b1 : decide (0 ≤ t155) = true := decide_eq_true c9
     clear c9
     by_cases c10 : t155 ≤ (wrap64 (t155 + t154))
     ·rw [if_pos c10] at H
      have c10b0 := eq_true c10
      have c10b1 : decide (t155 ≤ (wrap64 (t155 + t154))) = true := decide_eq_true c10
      by_cases c11 : (wrap64 (t155 + t154)) ≤ (a0.size : Int)
      ·rw [if_pos c11] at H
       have c11b0 := eq_true c11
       have c11b1 : decide ((wrap64 (t155 + t154)) ≤ (a0.size : Int)) = true := decide_eq_true c11
       simp only [Option.some.injEq, Prod.mk.injEq] at H
       obtain ⟨rfl, rfl, rfl⟩ := H
       go_enter Try.func138, Try.ntmps138
       go_wp2_with (first | ((with_reducible refine gate_callee (f := 131) rfl ?_); refine goesL_ (some 13) rfl rfl Try.func131 (by kernel_rfl) rfl #[.string a0, .int .i64 a1] rfl (by (try simp only [List.map_toArray, List.map_cons, List.map_nil]); first | done | rfl | (simp only [List.length_drop, List.length_take]; rfl)) ?_; (with_reducible refine (spec_ReadVar.calls k a0 a1 t154 t155 true _ A3.out).mono ?_); rintro e w12 ⟨rfl, hb⟩; refine ⟨_, rfl, ?_⟩; have n0_ := Aside0.mk (below_step (by repeat (first | (with_reducible first | exact HB.out | apply below_alloc | apply pw_below_drewN | apply below_drew1) | exact HB.out)) hb); clear HB; have HB := n0_; clear n0_; (try clear hb); (try clear hb2); (try clear hk); (try clear hi)))
       go_ret3
       exact ⟨by first | rfl | (simp [errW_none, errW_some] <;> rfl) | (simp [*, errW_none, errW_some] <;> rfl), by repeat (first | (with_reducible first | exact HB.out | apply below_alloc | apply pw_below_drewN | apply below_drew1) | exact HB.out)⟩
      ·rw [if_neg c11] at H
       exact absurd H (by simp)
     ·rw [if_neg c10] at H
      exact absurd H (by simp)
    ·rw [if_neg c9] at H
     exact absurd H (by simp)
 ·replace c4 := Bool.eq_false_iff.mpr c4
  subst c4
  have H1 : (some ((⟨#[]⟩ : ByteArray), 0, false)) = some (r1, r2, r3) := by rw [if_neg (show ¬ (false = true) by decide)] at H; exact H
  clear H
  have H := H1
  clear H1
  simp only [Option.some.injEq, Prod.mk.injEq] at H
  obtain ⟨rfl, rfl, rfl⟩ := H
  go_enter Try.func138, Try.ntmps138
  go_wp2_with (first | ((with_reducible refine gate_callee (f := 131) rfl ?_); refine goesL_ (some 13) rfl rfl Try.func131 (by kernel_rfl) rfl #[.string a0, .int .i64 a1] rfl (by (try simp only [List.map_toArray, List.map_cons, List.map_nil]); first | done | rfl | (simp only [List.length_drop, List.length_take]; rfl)) ?_; (with_reducible refine (spec_ReadVar.calls k a0 a1 t154 t155 false _ A3.out).mono ?_); rintro e w13 ⟨rfl, hb⟩; refine ⟨_, rfl, ?_⟩; have n0_ := Aside0.mk (below_step (by repeat (first | (with_reducible first | exact HB.out | apply below_alloc | apply pw_below_drewN | apply below_drew1) | exact HB.out)) hb); clear HB; have HB := n0_; clear n0_; (try clear hb); (try clear hb2); (try clear hk); (try clear hi)))
  go_ret3
  exact ⟨by first | rfl | (simp [errW_none, errW_some] <;> rfl) | (simp [*, errW_none, errW_some] <;> rfl), by repeat (first | (with_reducible first | exact HB.out | apply below_alloc | apply pw_below_drewN | apply below_drew1) | exact HB.out)⟩
end Go.Proofs.Ytapholbdjccapaa.PFnExactTreeOk
namespace Go.Proofs.Ytapholbdjccapaa.PFnExactTreeOk
open Go.RowKit Go.Proofs.YtapholbdjccapaaW.PrintWords Go.Proofs.YtapholbdjccapaaW.PrintLast Go.Proofs.YtapholbdjccapaaW.PrintMore
namespace Crc
def st (s : Nat) : Nat := if s % 2 = 1 then (s / 2) ^^^ 3558460437 else s / 2
def st8 (s : Nat) : Nat := st (st (st (st (st (st (st (st s)))))))
def upd (s b : Nat) : Nat := st8 (s ^^^ b)
def sum (s : Nat) (l : List Nat) : Nat := l.foldl upd s
theorem st_lt {s : Nat} (h : s < 2 ^ 32) : st s < 2 ^ 32 := by
 unfold st
 split
 ·exact Nat.xor_lt_two_pow (by omega) (by decide)
 ·omega
theorem st8_lt {s : Nat} (h : s < 2 ^ 32) : st8 s < 2 ^ 32 := by
 unfold st8
 exact st_lt (st_lt (st_lt (st_lt (st_lt (st_lt (st_lt (st_lt h)))))))
theorem upd_lt {s b : Nat} (hs : s < 2 ^ 32) (hb : b < 256) : upd s b < 2 ^ 32 := st8_lt (Nat.xor_lt_two_pow hs (by omega))
end Crc
def natBytes (s : ByteArray) : List Nat := (List.range s.size).map fun (j : Nat) => (bt s (j : Int)).toNat
theorem natBytes_len (s : ByteArray) : (natBytes s).length = s.size := by simp [natBytes]
theorem natBytes_byte (s : ByteArray) : ∀ b ∈ natBytes s, b < 256 := by
 intro b hb
 simp only [natBytes, List.mem_map] at hb
 obtain ⟨j, _, rfl⟩ := hb
 have := bt_range s (j : Int)
 omega
theorem natBytes_drop (s : ByteArray) (i : Nat) (h : i < s.size) : (natBytes s).drop i = (bt s (i : Int)).toNat :: (natBytes s).drop (i + 1) := by
 rw [List.drop_eq_getElem_cons (by rw [natBytes_len]; exact h)]
 simp [natBytes]
theorem impl_bit (k s : Nat) (hs : s < 4294967296) (x : ByteArray) (n i : Int) (j : Nat) (hj : j < 8) : impl_SumMore.l1 (k + 1) (s : Int) x n i (j : Int) = impl_SumMore.l1 k ((Crc.st s : Nat) : Int) x n i ((j + 1 : Nat) : Int) := by
 have e1 : wrap64 ((j : Int) + 1) = ((j + 1 : Nat) : Int) := by rw [w64 (by omega) (by omega)]; omega
 have e2 : Go.bits .and .u32 (s : Int) 1 = ((s % 2 : Nat) : Int) := by
  have := u32_and_nat s 1 hs (by decide)
  rw [Nat.and_one_is_mod] at this
  exact this
 have e3 : (s : Int) / 2 = ((s / 2 : Nat) : Int) := by omega
 have e4 : Go.bits .xor .u32 ((s / 2 : Nat) : Int) 3558460437 = (((s / 2) ^^^ 3558460437 : Nat) : Int) := u32_xor_nat (s / 2) 3558460437 (by omega) (by decide)
 have c0 : (j : Int) < 8 := by omega
 rw [impl_SumMore.l1, if_pos c0, e1, e2, e3, e4]
 unfold Crc.st
 by_cases h : s % 2 = 1
 ·rw [if_pos (by rw [h]; rfl), if_pos h]
 ·rw [if_neg (by intro q; apply h; omega), if_neg h]
theorem spec_bit (k s : Nat) (hs : s < 4294967296) (x : ByteArray) (i : Int) (j : Nat) (hj : j < 8) : spec_SumMore.l1 (k + 1) (s : Int) x i (j : Int) = spec_SumMore.l1 k ((Crc.st s : Nat) : Int) x i ((j + 1 : Nat) : Int) := by
 have e1 : wrap64 ((j : Int) + 1) = ((j + 1 : Nat) : Int) := by rw [w64 (by omega) (by omega)]; omega
 have e2 : Int.tmod (s : Int) 2 = ((s % 2 : Nat) : Int) := by rw [Int.tmod_eq_emod_of_nonneg (by omega)]; omega
 have e3 : (Int.tdiv (s : Int) 2) % 4294967296 = ((s / 2 : Nat) : Int) := by rw [Int.tdiv_eq_ediv_of_nonneg (by omega)]; omega
 have e4 : Go.bits .xor .u32 ((s / 2 : Nat) : Int) 3558460437 = (((s / 2) ^^^ 3558460437 : Nat) : Int) := u32_xor_nat (s / 2) 3558460437 (by omega) (by decide)
 have c0 : (j : Int) < 8 := by omega
 rw [spec_SumMore.l1, if_pos c0, e1, e2, e3, e4]
 unfold Crc.st
 by_cases h : s % 2 = 1
 ·rw [if_pos (by rw [h]; rfl), if_pos h]
 ·rw [if_neg (by intro q; apply h; omega), if_neg h]
theorem st_lt' {s : Nat} (h : s < 4294967296) : Crc.st s < 4294967296 := Crc.st_lt h
theorem impl_byte (k s : Nat) (hs : s < 4294967296) (x : ByteArray) (n : Int) (i : Nat) (hi : (i : Int) < n) (hx : i < x.size) (hsz : x.size ≤ 140737488351232) : impl_SumMore.l0 (k + 10) (s : Int) x n (i : Int) = impl_SumMore.l0 k ((Crc.upd s (bt x (i : Int)).toNat : Nat) : Int) x n ((i + 1 : Nat) : Int) := by
 obtain ⟨b, hb⟩ : ∃ b : Nat, bt x (i : Int) = (b : Int) := ⟨(bt x (i : Int)).toNat, (Int.toNat_of_nonneg (bt_range x (i : Int)).1).symm⟩
 have hb256 : b < 256 := by have := (bt_range x (i : Int)).2; rw [hb] at this; omega
 have e0 : (bt x (i : Int)) % 4294967296 = (b : Int) := by rw [hb]; omega
 have e1 : Go.bits .xor .u32 (s : Int) (b : Int) = ((s ^^^ b : Nat) : Int) := u32_xor_nat s b hs (by omega)
 have e2 : wrap64 ((i : Int) + 1) = ((i + 1 : Nat) : Int) := by rw [w64 (by omega) (by omega)]; omega
 have c1 : (0 : Int) ≤ (i : Int) := by omega
 have c2 : (i : Int) < (x.size : Int) := by omega
 have h0 : s ^^^ b < 4294967296 := Nat.xor_lt_two_pow (n := 32) hs (by omega)
 rw [impl_SumMore.l0, if_pos hi, if_pos c1, if_pos c2, e0, e1, hb, Int.toNat_natCast]
 have z : (0 : Int) = ((0 : Nat) : Int) := rfl
 rw [z, impl_bit _ _ h0 x n i 0 (by decide), impl_bit _ _ (st_lt' h0) x n i 1 (by decide), impl_bit _ _ (st_lt' (st_lt' h0)) x n i 2 (by decide), impl_bit _ _ (st_lt' (st_lt' (st_lt' h0))) x n i 3 (by decide),
  impl_bit _ _ (st_lt' (st_lt' (st_lt' (st_lt' h0)))) x n i 4 (by decide), impl_bit _ _ (st_lt' (st_lt' (st_lt' (st_lt' (st_lt' h0))))) x n i 5 (by decide), impl_bit _ _ (st_lt' (st_lt' (st_lt' (st_lt' (st_lt' (st_lt' h0)))))) x n i 6 (by decide), impl_bit _ _ (st_lt' (st_lt' (st_lt' (st_lt' (st_lt' (st_lt' (st_lt' h0))))))) x n i 7 (by decide)]
 have c3 : ¬ ((7 + 1 : Nat) : Int) < 8 := by decide
 rw [impl_SumMore.l1, if_neg c3, e2]
 rfl
theorem spec_byte (k s : Nat) (hs : s < 4294967296) (x : ByteArray) (i : Nat) (hx : i < x.size) (hsz : x.size ≤ 140737488351232) : spec_SumMore.l0 (k + 10) (s : Int) x (i : Int) = spec_SumMore.l0 k ((Crc.upd s (bt x (i : Int)).toNat : Nat) : Int) x ((i + 1 : Nat) : Int) := by
 obtain ⟨b, hb⟩ : ∃ b : Nat, bt x (i : Int) = (b : Int) := ⟨(bt x (i : Int)).toNat, (Int.toNat_of_nonneg (bt_range x (i : Int)).1).symm⟩
 have hb256 : b < 256 := by have := (bt_range x (i : Int)).2; rw [hb] at this; omega
 have e0 : (bt x (i : Int)) % 4294967296 = (b : Int) := by rw [hb]; omega
 have e1 : Go.bits .xor .u32 (s : Int) (b : Int) = ((s ^^^ b : Nat) : Int) := u32_xor_nat s b hs (by omega)
 have e2 : wrap64 ((i : Int) + 1) = ((i + 1 : Nat) : Int) := by rw [w64 (by omega) (by omega)]; omega
 have c1 : (0 : Int) ≤ (i : Int) := by omega
 have c2 : (i : Int) < (x.size : Int) := by omega
 have h0 : s ^^^ b < 4294967296 := Nat.xor_lt_two_pow (n := 32) hs (by omega)
 rw [spec_SumMore.l0, if_pos c2, if_pos c1, e0, e1, hb, Int.toNat_natCast]
 have z : (0 : Int) = ((0 : Nat) : Int) := rfl
 rw [z, spec_bit _ _ h0 x i 0 (by decide), spec_bit _ _ (st_lt' h0) x i 1 (by decide), spec_bit _ _ (st_lt' (st_lt' h0)) x i 2 (by decide), spec_bit _ _ (st_lt' (st_lt' (st_lt' h0))) x i 3 (by decide),
  spec_bit _ _ (st_lt' (st_lt' (st_lt' (st_lt' h0)))) x i 4 (by decide), spec_bit _ _ (st_lt' (st_lt' (st_lt' (st_lt' (st_lt' h0))))) x i 5 (by decide), spec_bit _ _ (st_lt' (st_lt' (st_lt' (st_lt' (st_lt' (st_lt' h0)))))) x i 6 (by decide), spec_bit _ _ (st_lt' (st_lt' (st_lt' (st_lt' (st_lt' (st_lt' (st_lt' h0))))))) x i 7 (by decide)]
 have c3 : ¬ ((7 + 1 : Nat) : Int) < 8 := by decide
 rw [spec_SumMore.l1, if_neg c3, e2]
 rfl
theorem sums (x : ByteArray) (hsz : x.size ≤ 140737488351232) : ∀ (d i s : Nat), i + d = x.size → s < 4294967296 →
  impl_SumMore.l0 (10 * d + 1) (s : Int) x (x.size : Int) (i : Int) = some ((Crc.sum s ((natBytes x).drop i) : Nat) : Int) ∧ spec_SumMore.l0 (10 * d + 1) (s : Int) x (i : Int) = some ((Crc.sum s ((natBytes x).drop i) : Nat) : Int) := by
 intro d
 induction d with
 | zero =>
  intro i s hi hs
  have hn : (natBytes x).drop i = [] := List.drop_eq_nil_of_le (by rw [natBytes_len]; omega)
  have c : ¬ (i : Int) < (x.size : Int) := by omega
  rw [hn]
  exact ⟨by rw [impl_SumMore.l0, if_neg c]; rfl, by rw [spec_SumMore.l0, if_neg c]; rfl⟩
 | succ d ih =>
  intro i s hi hs
  have hlt : i < x.size := by omega
  have hb := natBytes_byte x (bt x (i : Int)).toNat (by
   have := natBytes_drop x i hlt
   exact List.mem_of_mem_drop (i := i) (by rw [this]; simp))
  obtain ⟨h1, h2⟩ := ih (i + 1) (Crc.upd s (bt x (i : Int)).toNat) (by omega) (Crc.upd_lt hs hb)
  rw [show 10 * (d + 1) + 1 = 10 * d + 1 + 10 by omega, impl_byte _ s hs x _ i (by omega) hlt hsz, spec_byte _ s hs x i hlt hsz, natBytes_drop x i hlt]
  exact ⟨h1, h2⟩
def crcN (s : ByteArray) : Nat := Crc.sum 4294967295 (natBytes s)
def sealN (s : ByteArray) : ByteArray := strOfNums [((crcN s : Nat) : Int) / 16777216 % 256, ((crcN s : Nat) : Int) / 65536 % 256, ((crcN s : Nat) : Int) / 256 % 256, ((crcN s : Nat) : Int) % 256]
theorem seal_f (s : ByteArray) (hs : s.size ≤ 140737488351232) : impl_seal.f (10 * s.size + 1) s = some (sealN s) ∧ (spec_SumOf.f (10 * s.size + 1) s).bind spec_l02Four.f = some (sealN s) := by
 obtain ⟨h1, h2⟩ := sums s hs s.size 0 4294967295 (by omega) (by decide)
 have z : ((0 : Nat) : Int) = 0 := rfl
 have y : ((4294967295 : Nat) : Int) = 4294967295 := rfl
 rw [z, y, List.drop_zero] at h1 h2
 unfold impl_seal.f impl_SumOf.f impl_SumMore.f spec_SumOf.f spec_SumMore.f
 rw [h1, h2]
 exact ⟨rfl, rfl⟩
def unsealed_ (t : ByteArray) : ByteArray × Bool :=
 if 4 ≤ t.size ∧ t.size ≤ 20004 ∧ (t.extract (t.size - 4) t.size).toList = (sealN (t.extract 0 (t.size - 4))).toList then (t.extract 0 (t.size - 4), true) else (⟨#[]⟩, false)
theorem unsealed_f (t : ByteArray) (ht : t.size ≤ 140737488351232) : (∃ k, impl_Unsealed.f k t = some (unsealed_ t)) ∧ (∃ k, spec_Unsealed.f k t = some (unsealed_ t)) := by
 have e0 : wrap64 ((t.size : Int) - 4) = (t.size : Int) - 4 := by unfold wrap64; omega
 by_cases h1 : 4 ≤ t.size ∧ t.size ≤ 20004
 ·have hx : (t.extract 0 (t.size - 4)).size = t.size - 4 := by simp [ByteArray.size_extract]
  obtain ⟨h2, h3⟩ := seal_f (t.extract 0 (t.size - 4)) (by rw [hx]; omega)
  have e1 : ((t.size : Int) - 4).toNat = t.size - 4 := by omega
  have c1 : (t.size : Int) - 4 ≥ 0 := by omega
  have c2 : (t.size : Int) - 4 ≤ 20000 := by omega
  have c3 : (0 : Int) ≤ (t.size : Int) - 4 := by omega
  have c4 : (t.size : Int) - 4 ≤ (t.size : Int) := by omega
  have c5 : ¬ (t.size : Int) - 4 < 0 := by omega
  have c6 : ¬ (t.size : Int) - 4 > 20000 := by omega
  generalize hK : 10 * (t.extract 0 (t.size - 4)).size + 1 = K at h2 h3
  refine ⟨⟨K, ?_⟩, ⟨K, ?_⟩⟩
  ·unfold impl_Unsealed.f impl_in.f unsealed_
   rw [e0, if_pos c1, decide_eq_true c2, Option.bind_some, if_pos rfl, if_pos c3, if_pos c4, e1, h2, Option.bind_some]
   by_cases h4 : (t.extract (t.size - 4) t.size).toList = (sealN (t.extract 0 (t.size - 4))).toList
   ·rw [if_pos h4, if_pos ⟨h1.1, h1.2, h4⟩]
   ·rw [if_neg h4, if_neg (fun q => h4 q.2.2)]
  ·unfold spec_Unsealed.f unsealed_
   rw [e0, if_neg c5, if_neg c6, if_pos c3, if_pos c4, e1]
   cases hs : spec_SumOf.f K (t.extract 0 (t.size - 4)) with
   | none => rw [hs] at h3; cases h3
   | some q =>
    rw [hs, Option.bind_some] at h3
    rw [Option.bind_some, h3, Option.bind_some]
    by_cases h4 : (t.extract (t.size - 4) t.size).toList = (sealN (t.extract 0 (t.size - 4))).toList
    ·rw [if_pos h4, if_pos ⟨h1.1, h1.2, h4⟩]
    ·rw [if_neg h4, if_neg (fun q => h4 q.2.2)]
 ·have hu : unsealed_ t = (⟨#[]⟩, false) := by unfold unsealed_; rw [if_neg (fun q => h1 ⟨q.1, q.2.1⟩)]
  rw [hu]
  refine ⟨⟨0, ?_⟩, ⟨0, ?_⟩⟩
  ·unfold impl_Unsealed.f impl_in.f
   rw [e0]
   by_cases c1 : (t.size : Int) - 4 ≥ 0
   ·rw [if_pos c1, decide_eq_false (by omega)]
    rfl
   ·rw [if_neg c1]
    rfl
  ·unfold spec_Unsealed.f
   rw [e0]
   by_cases c1 : (t.size : Int) - 4 < 0
   ·rw [if_pos c1]
   ·have c2 : (t.size : Int) - 4 > 20000 := by omega
    rw [if_neg c1, if_pos c2]
end Go.Proofs.Ytapholbdjccapaa.PFnExactTreeOk
namespace Go.Proofs.Ytapholbdjccapaa.PFnExactTreeOk
open Go.RowKit Go.Proofs.YtapholbdjccapaaW.PrintWords Go.Proofs.YtapholbdjccapaaW.PrintLast Go.Proofs.YtapholbdjccapaaW.PrintMore
attribute [local go_sem] max2_int min2_int max_two min_two max_three min_three max_four min_four
def bl (s : ByteArray) : List Int := bytes s 0 s.size
theorem bl_len (s : ByteArray) : (bl s).length = s.size := by rw [bl, bytes_len, Nat.sub_zero]
theorem ba_ext {a b : ByteArray} (h : a.data.toList = b.data.toList) : a = b := by
 cases a; cases b
 congr 1
 exact Array.toList_inj.1 h
theorem str_append (xs ys : List Int) : strOfNums (xs ++ ys) = strOfNums xs ++ strOfNums ys := by
 apply ba_ext
 rw [ByteArray.data_append, Array.toList_append, strOfNums_data, strOfNums_data, strOfNums_data, List.map_append]
theorem str_bl (s : ByteArray) : strOfNums (bl s) = s := by
 apply ba_ext
 have h := extract_list s 0 s.size (Nat.le_refl _)
 rw [Lib.toList_data] at h
 rw [strOfNums_data]
 unfold bl
 rw [← h, ByteArray.data_extract]
 have : s.data.extract 0 s.size = s.data := by
  have hs : s.size = s.data.size := rfl
  rw [hs]
  simp
 rw [this]
theorem bl_byte (s : ByteArray) : ∀ b ∈ bl s, 0 ≤ b ∧ b < 256 := bytes_byte s 0 s.size
theorem str_inj {xs ys : List Int} (hx : ∀ x ∈ xs, 0 ≤ x ∧ x < 256) (hy : ∀ x ∈ ys, 0 ≤ x ∧ x < 256) (h : strOfNums xs = strOfNums ys) : xs = ys := by
 have := congrArg (fun s : ByteArray => s.data.toList) h
 simp only [strOfNums_data] at this
 exact map_inj_byte hx hy this
theorem bl_str (xs : List Int) (hx : ∀ x ∈ xs, 0 ≤ x ∧ x < 256) : bl (strOfNums xs) = xs := str_inj (bl_byte _) hx (str_bl _)
def itemL (leaf : Bool) (key val : ByteArray) (kid : Int) : List Int := enc key.size ++ bl key ++ (if leaf = true then enc val.size ++ bl val else enc kid.toNat)
def itemsL (leaf : Bool) (keys vals : List ByteArray) (kids : List Int) : Nat → Nat → List Int
 | _, 0 => []
 | i, n + 1 => itemL leaf (keys.getD i ByteArray.empty) (vals.getD i ByteArray.empty) (kids.getD i 0) ++ itemsL leaf keys vals kids (i + 1) n
def bodyL (leaf : Bool) (keys vals : List ByteArray) (kids : List Int) : List Int := [if leaf = true then 108 else 98] ++ enc keys.length ++ itemsL leaf keys vals kids 0 keys.length
theorem itemL_byte (leaf : Bool) (key val : ByteArray) (kid : Int) : ∀ b ∈ itemL leaf key val kid, 0 ≤ b ∧ b < 256 := by
 intro b hb
 unfold itemL at hb
 rw [List.mem_append, List.mem_append] at hb
 rcases hb with (hb | hb) | hb
 ·exact enc_byte _ b hb
 ·exact bl_byte _ b hb
 ·cases leaf with
  | true =>
   rw [if_pos rfl, List.mem_append] at hb
   rcases hb with hb | hb
   ·exact enc_byte _ b hb
   ·exact bl_byte _ b hb
  | false => rw [if_neg (by simp)] at hb; exact enc_byte _ b hb
theorem itemsL_byte (leaf : Bool) (keys vals : List ByteArray) (kids : List Int) : ∀ n i, ∀ b ∈ itemsL leaf keys vals kids i n, 0 ≤ b ∧ b < 256
 | 0, _, b, hb => by simp [itemsL] at hb
 | n + 1, i, b, hb => by
  rw [itemsL, List.mem_append] at hb
  rcases hb with hb | hb
  ·exact itemL_byte _ _ _ _ b hb
  ·exact itemsL_byte leaf keys vals kids n (i + 1) b hb
theorem bodyL_byte (leaf : Bool) (keys vals : List ByteArray) (kids : List Int) : ∀ b ∈ bodyL leaf keys vals kids, 0 ≤ b ∧ b < 256 := by
 intro b hb
 unfold bodyL at hb
 rw [List.mem_append, List.mem_append, List.mem_singleton] at hb
 rcases hb with (hb | hb) | hb
 ·subst hb; cases leaf <;> simp
 ·exact enc_byte _ b hb
 ·exact itemsL_byte _ _ _ _ _ _ b hb
theorem var_ev (n : Nat) (h : n < 128) : Ev (fun k => spec_l01Var.f k (n : Int)) (strOfNums (enc n)) := Ev.of (spec_l01Var.mono _) (k := 1) (l01Var_ev 0 n [] (by simpa using h) (by simp) (by omega))
theorem short_ev (s : ByteArray) (h : s.size < 128) : Ev (fun k => spec_l04Short.f k s) (strOfNums (enc s.size ++ bl s)) := by
 unfold spec_l04Short.f
 refine Ev.bind (var_ev s.size h) (Ev.congr (f := fun _ => some (strOfNums (enc s.size ++ bl s))) (fun k => ?_) (Ev.now _))
 have hl : (strOfNums (enc s.size)).size + s.size ≤ 9223372036854775807 := by
  rw [strOfNums_size, enc_small h]
  simp
  omega
 rw [if_pos hl, str_append, str_bl]
theorem item_len (leaf : Bool) (key val : ByteArray) (kid : Int) (h1 : key.size ≤ 24) (h2 : leaf = true → val.size ≤ 24) (h3 : leaf = false → kid.toNat ≤ 39) : (itemL leaf key val kid).length ≤ 50 := by
 unfold itemL
 rw [List.length_append, List.length_append, bl_len, enc_small (show key.size < 128 by omega)]
 cases leaf with
 | true =>
  have := h2 rfl
  rw [if_pos rfl, List.length_append, bl_len, enc_small (show val.size < 128 by omega)]
  simp
  omega
 | false =>
  have := h3 rfl
  rw [if_neg (by simp), enc_small (show kid.toNat < 128 by omega)]
  simp
  omega
theorem bytes_ev (leaf : Bool) (keys vals : List ByteArray) (kids : List Int) (hs : NShape leaf keys vals kids) (hc : ∀ j, j < keys.length → NCond leaf keys vals kids j) : ∀ d i (acc : List Int), i + d = keys.length → acc.length ≤ 10 + 50 * i →
  Ev (fun k => spec_l05Bytes.l0 k (strOfNums acc) (i : Int) leaf keys vals kids) (strOfNums (acc ++ itemsL leaf keys vals kids i d)) := by
 intro d
 induction d with
 | zero =>
  intro i acc hi _
  have c : ¬ (i : Int) < (keys.length : Int) := by omega
  refine Ev.step (f := fun _ => some (strOfNums acc)) (fun k => ?_) (by rw [itemsL, List.append_nil]; exact Ev.now _)
  rw [spec_l05Bytes.l0, if_neg c]
 | succ d ih =>
  intro i acc hi hl
  have h4 := hs.1.2
  have c1 : (i : Int) < (keys.length : Int) := by omega
  have c2 : (0 : Int) ≤ (i : Int) := by omega
  obtain ⟨q1, q2, q3, q4⟩ := hc i (by omega)
  obtain ⟨key, hkey⟩ : ∃ key, keys.getD i ByteArray.empty = key := ⟨_, rfl⟩
  obtain ⟨val, hval⟩ : ∃ val, vals.getD i ByteArray.empty = val := ⟨_, rfl⟩
  obtain ⟨kid, hkid⟩ : ∃ kid, kids.getD i 0 = kid := ⟨_, rfl⟩
  rw [hkey] at q1
  rw [hval] at q3
  rw [hkid] at q4
  have hil := item_len leaf key val kid q1 q3 (fun h => by have := q4 h; omega)
  have ih' := ih (i + 1) (acc ++ itemL leaf key val kid) (by omega) (by rw [List.length_append]; omega)
  rw [List.append_assoc] at ih'
  have hgoal : itemsL leaf keys vals kids i (d + 1) = itemL leaf key val kid ++ itemsL leaf keys vals kids (i + 1) d := by rw [itemsL, hkey, hval, hkid]
  rw [hgoal]
  have hl1 : (enc key.size ++ bl key).length ≤ 50 := by
   rw [List.length_append, bl_len, enc_small (show key.size < 128 by omega)]
   simp
   omega
  have s1 : (strOfNums acc).size + (strOfNums (enc key.size ++ bl key)).size ≤ 9223372036854775807 := by rw [strOfNums_size, strOfNums_size]; omega
  cases leaf with
  | true =>
   have c3 : (i : Int) < (vals.length : Int) := by have := (hs.2.1 rfl).1; omega
   have q3' := q3 rfl
   have hl2 : (enc val.size ++ bl val).length ≤ 50 := by
    rw [List.length_append, bl_len, enc_small (show val.size < 128 by omega)]
    simp
    omega
   have s2 : (strOfNums acc ++ strOfNums (enc key.size ++ bl key)).size + (strOfNums (enc val.size ++ bl val)).size ≤ 9223372036854775807 := by rw [ByteArray.size_append, strOfNums_size, strOfNums_size, strOfNums_size]; omega
   obtain ⟨K1, h1⟩ := short_ev key (by omega)
   obtain ⟨K2, h2⟩ := short_ev val (by omega)
   obtain ⟨K3, h3⟩ := ih'
   refine ⟨max K1 (max K2 K3) + 1, fun k hk => ?_⟩
   obtain ⟨m, rfl⟩ : ∃ m, k = m + 1 := ⟨k - 1, by omega⟩
   have e1 : strOfNums acc ++ strOfNums (enc key.size ++ bl key) ++ strOfNums (enc val.size ++ bl val) = strOfNums (acc ++ itemL true key val kid) := by
    rw [← str_append, ← str_append, List.append_assoc]
    rfl
   have h3' := h3 m (by omega)
   have h1' := h1 m (by omega)
   have h2' := h2 m (by omega)
   simp only at h1' h2' h3'
   show spec_l05Bytes.l0 (m + 1) (strOfNums acc) (i : Int) true keys vals kids = _
   rw [spec_l05Bytes.l0, if_pos c1, if_pos c2, rdOf_cast, hkey, h1', Option.bind_some, if_pos s1, if_pos rfl, if_pos c3, rdOf_cast, hval, h2', Option.bind_some, if_pos s2, e1, wS (by omega)]
   exact h3'
  | false =>
   have c3 : (i : Int) < (kids.length : Int) := by have := (hs.2.2 rfl).1; omega
   have q4' := q4 rfl
   obtain ⟨kn, hkn⟩ : ∃ kn : Nat, kid = (kn : Int) := ⟨kid.toNat, by omega⟩
   subst hkn
   have hl2 : (enc kn).length ≤ 50 := by
    rw [enc_small (show kn < 128 by omega)]
    simp
   have s2 : (strOfNums acc ++ strOfNums (enc key.size ++ bl key)).size + (strOfNums (enc kn)).size ≤ 9223372036854775807 := by rw [ByteArray.size_append, strOfNums_size, strOfNums_size, strOfNums_size]; omega
   obtain ⟨K1, h1⟩ := short_ev key (by omega)
   obtain ⟨K2, h2⟩ := var_ev kn (by omega)
   obtain ⟨K3, h3⟩ := ih'
   refine ⟨max K1 (max K2 K3) + 1, fun k hk => ?_⟩
   obtain ⟨m, rfl⟩ : ∃ m, k = m + 1 := ⟨k - 1, by omega⟩
   have e1 : strOfNums acc ++ strOfNums (enc key.size ++ bl key) ++ strOfNums (enc kn) = strOfNums (acc ++ itemL false key val (kn : Int)) := by
    rw [← str_append, ← str_append, List.append_assoc]
    rfl
   have h3' := h3 m (by omega)
   have h1' := h1 m (by omega)
   have h2' := h2 m (by omega)
   simp only at h1' h2' h3'
   show spec_l05Bytes.l0 (m + 1) (strOfNums acc) (i : Int) false keys vals kids = _
   rw [spec_l05Bytes.l0, if_pos c1, if_pos c2, rdOf_cast, hkey, h1', Option.bind_some, if_pos s1, if_neg (by simp), if_pos c3, rd_cast, hkid, h2', Option.bind_some, if_pos s2, e1, wS (by omega)]
   exact h3'
theorem items_len (leaf : Bool) (keys vals : List ByteArray) (kids : List Int) (hc : ∀ j, j < keys.length → NCond leaf keys vals kids j) : ∀ d i, i + d = keys.length → (itemsL leaf keys vals kids i d).length ≤ 50 * d
 | 0, _, _ => by simp [itemsL]
 | d + 1, i, hi => by
  obtain ⟨q1, q2, q3, q4⟩ := hc i (by omega)
  have := item_len leaf _ (vals.getD i ByteArray.empty) (kids.getD i 0) q1 q3 (fun h => by have := q4 h; omega)
  have ih := items_len leaf keys vals kids hc d (i + 1) (by omega)
  rw [itemsL, List.length_append]
  omega
def textN (leaf : Bool) (keys vals : List ByteArray) (kids : List Int) : ByteArray := strOfNums (bodyL leaf keys vals kids)
theorem textN_len (leaf : Bool) (keys vals : List ByteArray) (kids : List Int) (hs : NShape leaf keys vals kids) (hc : ∀ j, j < keys.length → NCond leaf keys vals kids j) : (textN leaf keys vals kids).size ≤ 202 := by
 have := items_len leaf keys vals kids hc keys.length 0 (by omega)
 have h4 := hs.1.2
 unfold textN bodyL
 rw [strOfNums_size, List.length_append, List.length_append, enc_small (show keys.length < 128 by omega)]
 simp
 omega
theorem text_ev (leaf : Bool) (keys vals : List ByteArray) (kids : List Int) (hs : NShape leaf keys vals kids) (hc : ∀ j, j < keys.length → NCond leaf keys vals kids j) : Ev (fun k => spec_l05Bytes.f k leaf keys vals kids) (textN leaf keys vals kids) := by
 have h4 := hs.1.2
 have hgo : Ev (fun k => spec_l05Bytes.j0 k (strOfNums [if leaf = true then 108 else 98]) leaf keys vals kids) (textN leaf keys vals kids) := by
  obtain ⟨K1, h1⟩ := var_ev keys.length (by omega)
  obtain ⟨K2, h2⟩ := bytes_ev leaf keys vals kids hs hc keys.length 0 ([if leaf = true then 108 else 98] ++ enc keys.length) (by omega) (by rw [enc_small (show keys.length < 128 by omega)]; simp)
  refine ⟨max K1 K2 + 1, fun k hk => ?_⟩
  obtain ⟨m, rfl⟩ : ∃ m, k = m + 1 := ⟨k - 1, by omega⟩
  have h1' := h1 m (by omega)
  have h2' := h2 m (by omega)
  simp only at h1' h2'
  have s1 : (strOfNums [if leaf = true then 108 else 98]).size + (strOfNums (enc keys.length)).size ≤ 9223372036854775807 := by
   rw [strOfNums_size, strOfNums_size, enc_small (show keys.length < 128 by omega)]
   simp
  show spec_l05Bytes.j0 (m + 1) _ leaf keys vals kids = _
  rw [spec_l05Bytes.j0, h1', Option.bind_some, if_pos s1, ← str_append]
  exact h2'
 refine Ev.congr (fun k => ?_) hgo
 unfold spec_l05Bytes.f
 cases leaf with
 | true => rw [if_pos rfl]; rfl
 | false => rw [if_neg (by simp)]; rfl
theorem sealed_ev (s : ByteArray) (hs : s.size ≤ 20000) : Ev (fun k => spec_Sealed.f k s) (s ++ sealN s, true) := by
 obtain ⟨_, h2⟩ := seal_f s (by omega)
 refine Ev.of (spec_Sealed.mono s) (k := 10 * s.size + 1) ?_
 unfold spec_Sealed.f
 have c1 : ¬ (s.size : Int) > 20000 := by omega
 rw [if_neg c1]
 cases hq : spec_SumOf.f (10 * s.size + 1) s with
 | none => rw [hq] at h2; cases h2
 | some q =>
  rw [hq, Option.bind_some] at h2
  have h4 : (sealN s).size = 4 := by unfold sealN; rw [strOfNums_size]; rfl
  rw [Option.bind_some, h2, Option.bind_some, if_pos (by omega)]
def nodeTextN (leaf : Bool) (keys vals : List ByteArray) (kids : List Int) : ByteArray × Bool :=
 if nodeOkB leaf keys vals kids = true then (textN leaf keys vals kids ++ sealN (textN leaf keys vals kids), true) else (⟨#[]⟩, false)
theorem nodeText_ev (leaf : Bool) (keys vals : List ByteArray) (kids : List Int) : Ev (fun k => spec_NodeText.f k leaf keys vals kids) (nodeTextN leaf keys vals kids) := by
 unfold spec_NodeText.f nodeTextN
 refine Ev.bind (spec_NodeOk_ev leaf keys vals kids) ?_
 cases hok : nodeOkB leaf keys vals kids with
 | true =>
  obtain ⟨hs, hc⟩ := (nodeOk_iff leaf keys vals kids).1 hok
  simp only [if_true]
  exact Ev.bind (text_ev leaf keys vals kids hs hc) (Ev.bind (sealed_ev _ (by have := textN_len leaf keys vals kids hs hc; omega)) (Ev.now _))
 | false => simp only [Bool.false_eq_true, if_false]; exact Ev.now _
structure Up (w : World) where
 W : World
 below : Below w.heap.size w W
instance (w : World) : Inhabited (Up w) := ⟨⟨w, Below.refl _ w⟩⟩
theorem wp_region_up {P : Program} {id : Nat} {Q : Exit → Act → World → Prop} {a : Act} {w : World} {l : List Oper} (hm : P.follows .mixedOrders = true) (hB : Region.lexB .any l.toArray = true)
  (h : wpQuiet P l.toArray (fun w' => ∃ q : Up w, w' = q.W) (fun a' => ∀ w', (∃ q : Up w, w' = q.W) → Q .normal a' w') l a) : (Code.region id l.toArray true).wp P Q a w :=
 wp_region_quiet (C := fun w' => ∃ q : Up w, w' = q.W) hm hB ⟨⟨_, (Below.refl _ w).drew⟩, rfl⟩ (by simpa using h)
theorem up_cell {w : World} {a : Addr} {v : Value} (h : w.cell? a = some v) : ∀ q : Up w, q.W.cell? a = some v := fun q => pw_cell_below q.below h
def RdPost (w0 w : World) (g t : Nat) (res : Value) (s : ByteArray) (at_ : Int) (bad : Bool) (e : Ending) (w' : World) : Prop :=
 e = .returned res ∧ w'.heap[g]? = some (.cells #[.string s, .int .i64 at_, .bool bad] t (0, 0)) ∧ Below w0.heap.size w0 w' ∧ KeepBut w w' g none
theorem l04Var_bad (k g : Nat) (s : ByteArray) (at_ : Int) (n : Int) (next : Int) (ok : Bool) (w0 w : World) (hI : w.heap[g]? = some (.cells #[.string s, .int .i64 at_, .bool true] 123 (0, 0))) (hg : w0.heap.size ≤ g) (hB : Below w0.heap.size w0 w) (h : spec_ReadVar.f k s at_ = some (n, next, ok)) :
  Calls Try.prog 82 #[.pointer (some ⟨g, 0, none⟩)] w (RdPost w0 w g 123 (.int .i64 0) s at_ true) := by
 have HI := Aside0.mk hI
 have HB := Aside0.mk hB
 have H := Aside0.mk h
 have u0 : ∀ q : Up w, q.W.cell? ⟨g, 0, none⟩ = some (.string s) := up_cell ((blk_cell hI 0).trans rfl)
 have u1 : ∀ q : Up w, q.W.cell? ⟨g, 1, none⟩ = some (.int .i64 at_) := up_cell ((blk_cell hI 1).trans rfl)
 have hgl := blk_lt hI
 clear hI hB h
 go_enter Try.func82, Try.ntmps82
 go_wp2_with fail
 refine wp_region_up (by kernel_rfl) (by kernel_rfl) ?_
 repeat (quiet_step (exact (spec_ReadVar.calls k s at_ n next ok _ H.out).mono fun e w' he => ⟨he.1, ⟨w', below_step (Up.below _) he.2⟩, rfl⟩))
 refine wpQuiet_nil ?_
 intro w1 hw'
 have hb1 : Below w.heap.size w w1 := by
  obtain ⟨q, rfl⟩ := hw'
  exact q.below
 clear hw'
 have BI1 := Aside0.mk (blk_below HI.out hb1)
 have hc2 : w1.cell? ⟨g, 2, none⟩ = some (.bool true) := (blk_cell BI1.out 2).trans rfl
 have hc1 : w1.cell? ⟨g, 1, none⟩ = some (.int .i64 at_) := (blk_cell BI1.out 1).trans rfl
 have hf2 := blk_frozen BI1.out 2
 have hf1 := blk_frozen BI1.out 1
 have HB1 := Aside0.mk hb1
 clear u0 u1 hb1
 go_wp2
 go_ret
 refine ⟨rfl, ?_, ?_, ?_⟩
 ·exact blk_put (cs := #[.string s, .int .i64 at_, .bool true]) BI1.out 2 _ rfl
 ·exact (HB.out.trans (HB1.out.mono HB.out.size)).setCell hg _
 ·exact (KeepBut.of_below HB1.out g none).set_ 2 _
theorem l04Var_not (k g : Nat) (s : ByteArray) (at_ : Int) (n : Int) (next : Int) (w0 w : World) (hI : w.heap[g]? = some (.cells #[.string s, .int .i64 at_, .bool false] 123 (0, 0))) (hg : w0.heap.size ≤ g) (hB : Below w0.heap.size w0 w) (h : spec_ReadVar.f k s at_ = some (n, next, false)) :
  Calls Try.prog 82 #[.pointer (some ⟨g, 0, none⟩)] w (RdPost w0 w g 123 (.int .i64 0) s at_ true) := by
 have HI := Aside0.mk hI
 have HB := Aside0.mk hB
 have H := Aside0.mk h
 have u0 : ∀ q : Up w, q.W.cell? ⟨g, 0, none⟩ = some (.string s) := up_cell ((blk_cell hI 0).trans rfl)
 have u1 : ∀ q : Up w, q.W.cell? ⟨g, 1, none⟩ = some (.int .i64 at_) := up_cell ((blk_cell hI 1).trans rfl)
 have hgl := blk_lt hI
 clear hI hB h
 go_enter Try.func82, Try.ntmps82
 go_wp2_with fail
 refine wp_region_up (by kernel_rfl) (by kernel_rfl) ?_
 repeat (quiet_step (exact (spec_ReadVar.calls k s at_ n next false _ H.out).mono fun e w' he => ⟨he.1, ⟨w', below_step (Up.below _) he.2⟩, rfl⟩))
 refine wpQuiet_nil ?_
 intro w1 hw'
 have hb1 : Below w.heap.size w w1 := by
  obtain ⟨q, rfl⟩ := hw'
  exact q.below
 clear hw'
 have BI1 := Aside0.mk (blk_below HI.out hb1)
 have hc2 : w1.cell? ⟨g, 2, none⟩ = some (.bool false) := (blk_cell BI1.out 2).trans rfl
 have hc1 : w1.cell? ⟨g, 1, none⟩ = some (.int .i64 at_) := (blk_cell BI1.out 1).trans rfl
 have hf2 := blk_frozen BI1.out 2
 have hf1 := blk_frozen BI1.out 1
 have HB1 := Aside0.mk hb1
 clear u0 u1 hb1
 go_wp2
 go_ret
 refine ⟨rfl, ?_, ?_, ?_⟩
 ·exact blk_put (cs := #[.string s, .int .i64 at_, .bool false]) BI1.out 2 _ rfl
 ·exact (HB.out.trans (HB1.out.mono HB.out.size)).setCell hg _
 ·exact (KeepBut.of_below HB1.out g none).set_ 2 _
theorem l04Var_good (k g : Nat) (s : ByteArray) (at_ : Int) (n : Int) (next : Int) (w0 w : World) (hI : w.heap[g]? = some (.cells #[.string s, .int .i64 at_, .bool false] 123 (0, 0))) (hg : w0.heap.size ≤ g) (hB : Below w0.heap.size w0 w) (h : spec_ReadVar.f k s at_ = some (n, next, true)) :
  Calls Try.prog 82 #[.pointer (some ⟨g, 0, none⟩)] w (RdPost w0 w g 123 (.int .i64 n) s next false) := by
 have HI := Aside0.mk hI
 have HB := Aside0.mk hB
 have H := Aside0.mk h
 have u0 : ∀ q : Up w, q.W.cell? ⟨g, 0, none⟩ = some (.string s) := up_cell ((blk_cell hI 0).trans rfl)
 have u1 : ∀ q : Up w, q.W.cell? ⟨g, 1, none⟩ = some (.int .i64 at_) := up_cell ((blk_cell hI 1).trans rfl)
 have hgl := blk_lt hI
 clear hI hB h
 go_enter Try.func82, Try.ntmps82
 go_wp2_with fail
 refine wp_region_up (by kernel_rfl) (by kernel_rfl) ?_
 repeat (quiet_step (exact (spec_ReadVar.calls k s at_ n next true _ H.out).mono fun e w' he => ⟨he.1, ⟨w', below_step (Up.below _) he.2⟩, rfl⟩))
 refine wpQuiet_nil ?_
 intro w1 hw'
 have hb1 : Below w.heap.size w w1 := by
  obtain ⟨q, rfl⟩ := hw'
  exact q.below
 clear hw'
 have BI1 := Aside0.mk (blk_below HI.out hb1)
 have hc2 : w1.cell? ⟨g, 2, none⟩ = some (.bool false) := (blk_cell BI1.out 2).trans rfl
 have hc1 : w1.cell? ⟨g, 1, none⟩ = some (.int .i64 at_) := (blk_cell BI1.out 1).trans rfl
 have hf2 := blk_frozen BI1.out 2
 have hf1 := blk_frozen BI1.out 1
 have HB1 := Aside0.mk hb1
 clear u0 u1 hb1
 go_wp2
 go_ret
 refine ⟨rfl, ?_, ?_, ?_⟩
 ·exact blk_put (cs := #[.string s, .int .i64 at_, .bool false]) BI1.out 1 _ rfl
 ·exact (HB.out.trans (HB1.out.mono HB.out.size)).setCell hg _
 ·exact (KeepBut.of_below HB1.out g none).set_ 1 _
theorem l04ReadShort_bad (k g : Nat) (s : ByteArray) (at_ : Int) (n : ByteArray) (next : Int) (ok : Bool) (w0 w : World) (hI : w.heap[g]? = some (.cells #[.string s, .int .i64 at_, .bool true] 123 (0, 0))) (hg : w0.heap.size ≤ g) (hB : Below w0.heap.size w0 w) (h : spec_ReadShort.f k s at_ = some (n, next, ok)) :
  Calls Try.prog 93 #[.pointer (some ⟨g, 0, none⟩)] w (RdPost w0 w g 123 (.string ⟨#[]⟩) s at_ true) := by
 have HI := Aside0.mk hI
 have HB := Aside0.mk hB
 have H := Aside0.mk h
 have u0 : ∀ q : Up w, q.W.cell? ⟨g, 0, none⟩ = some (.string s) := up_cell ((blk_cell hI 0).trans rfl)
 have u1 : ∀ q : Up w, q.W.cell? ⟨g, 1, none⟩ = some (.int .i64 at_) := up_cell ((blk_cell hI 1).trans rfl)
 have hgl := blk_lt hI
 clear hI hB h
 go_enter Try.func93, Try.ntmps93
 go_wp2_with fail
 refine wp_region_up (by kernel_rfl) (by kernel_rfl) ?_
 repeat (quiet_step (exact (spec_ReadShort.calls k s at_ n next ok _ H.out).mono fun e w' he => ⟨he.1, ⟨w', below_step (Up.below _) he.2⟩, rfl⟩))
 refine wpQuiet_nil ?_
 intro w1 hw'
 have hb1 : Below w.heap.size w w1 := by
  obtain ⟨q, rfl⟩ := hw'
  exact q.below
 clear hw'
 have BI1 := Aside0.mk (blk_below HI.out hb1)
 have hc2 : w1.cell? ⟨g, 2, none⟩ = some (.bool true) := (blk_cell BI1.out 2).trans rfl
 have hc1 : w1.cell? ⟨g, 1, none⟩ = some (.int .i64 at_) := (blk_cell BI1.out 1).trans rfl
 have hf2 := blk_frozen BI1.out 2
 have hf1 := blk_frozen BI1.out 1
 have HB1 := Aside0.mk hb1
 clear u0 u1 hb1
 go_wp2
 go_ret
 refine ⟨rfl, ?_, ?_, ?_⟩
 ·exact blk_put (cs := #[.string s, .int .i64 at_, .bool true]) BI1.out 2 _ rfl
 ·exact (HB.out.trans (HB1.out.mono HB.out.size)).setCell hg _
 ·exact (KeepBut.of_below HB1.out g none).set_ 2 _
theorem l04ReadShort_not (k g : Nat) (s : ByteArray) (at_ : Int) (n : ByteArray) (next : Int) (w0 w : World) (hI : w.heap[g]? = some (.cells #[.string s, .int .i64 at_, .bool false] 123 (0, 0))) (hg : w0.heap.size ≤ g) (hB : Below w0.heap.size w0 w) (h : spec_ReadShort.f k s at_ = some (n, next, false)) :
  Calls Try.prog 93 #[.pointer (some ⟨g, 0, none⟩)] w (RdPost w0 w g 123 (.string ⟨#[]⟩) s at_ true) := by
 have HI := Aside0.mk hI
 have HB := Aside0.mk hB
 have H := Aside0.mk h
 have u0 : ∀ q : Up w, q.W.cell? ⟨g, 0, none⟩ = some (.string s) := up_cell ((blk_cell hI 0).trans rfl)
 have u1 : ∀ q : Up w, q.W.cell? ⟨g, 1, none⟩ = some (.int .i64 at_) := up_cell ((blk_cell hI 1).trans rfl)
 have hgl := blk_lt hI
 clear hI hB h
 go_enter Try.func93, Try.ntmps93
 go_wp2_with fail
 refine wp_region_up (by kernel_rfl) (by kernel_rfl) ?_
 repeat (quiet_step (exact (spec_ReadShort.calls k s at_ n next false _ H.out).mono fun e w' he => ⟨he.1, ⟨w', below_step (Up.below _) he.2⟩, rfl⟩))
 refine wpQuiet_nil ?_
 intro w1 hw'
 have hb1 : Below w.heap.size w w1 := by
  obtain ⟨q, rfl⟩ := hw'
  exact q.below
 clear hw'
 have BI1 := Aside0.mk (blk_below HI.out hb1)
 have hc2 : w1.cell? ⟨g, 2, none⟩ = some (.bool false) := (blk_cell BI1.out 2).trans rfl
 have hc1 : w1.cell? ⟨g, 1, none⟩ = some (.int .i64 at_) := (blk_cell BI1.out 1).trans rfl
 have hf2 := blk_frozen BI1.out 2
 have hf1 := blk_frozen BI1.out 1
 have HB1 := Aside0.mk hb1
 clear u0 u1 hb1
 go_wp2
 go_ret
 refine ⟨rfl, ?_, ?_, ?_⟩
 ·exact blk_put (cs := #[.string s, .int .i64 at_, .bool false]) BI1.out 2 _ rfl
 ·exact (HB.out.trans (HB1.out.mono HB.out.size)).setCell hg _
 ·exact (KeepBut.of_below HB1.out g none).set_ 2 _
theorem l04ReadShort_good (k g : Nat) (s : ByteArray) (at_ : Int) (n : ByteArray) (next : Int) (w0 w : World) (hI : w.heap[g]? = some (.cells #[.string s, .int .i64 at_, .bool false] 123 (0, 0))) (hg : w0.heap.size ≤ g) (hB : Below w0.heap.size w0 w) (h : spec_ReadShort.f k s at_ = some (n, next, true)) :
  Calls Try.prog 93 #[.pointer (some ⟨g, 0, none⟩)] w (RdPost w0 w g 123 (.string n) s next false) := by
 have HI := Aside0.mk hI
 have HB := Aside0.mk hB
 have H := Aside0.mk h
 have u0 : ∀ q : Up w, q.W.cell? ⟨g, 0, none⟩ = some (.string s) := up_cell ((blk_cell hI 0).trans rfl)
 have u1 : ∀ q : Up w, q.W.cell? ⟨g, 1, none⟩ = some (.int .i64 at_) := up_cell ((blk_cell hI 1).trans rfl)
 have hgl := blk_lt hI
 clear hI hB h
 go_enter Try.func93, Try.ntmps93
 go_wp2_with fail
 refine wp_region_up (by kernel_rfl) (by kernel_rfl) ?_
 repeat (quiet_step (exact (spec_ReadShort.calls k s at_ n next true _ H.out).mono fun e w' he => ⟨he.1, ⟨w', below_step (Up.below _) he.2⟩, rfl⟩))
 refine wpQuiet_nil ?_
 intro w1 hw'
 have hb1 : Below w.heap.size w w1 := by
  obtain ⟨q, rfl⟩ := hw'
  exact q.below
 clear hw'
 have BI1 := Aside0.mk (blk_below HI.out hb1)
 have hc2 : w1.cell? ⟨g, 2, none⟩ = some (.bool false) := (blk_cell BI1.out 2).trans rfl
 have hc1 : w1.cell? ⟨g, 1, none⟩ = some (.int .i64 at_) := (blk_cell BI1.out 1).trans rfl
 have hf2 := blk_frozen BI1.out 2
 have hf1 := blk_frozen BI1.out 1
 have HB1 := Aside0.mk hb1
 clear u0 u1 hb1
 go_wp2
 go_ret
 refine ⟨rfl, ?_, ?_, ?_⟩
 ·exact blk_put (cs := #[.string s, .int .i64 at_, .bool false]) BI1.out 1 _ rfl
 ·exact (HB.out.trans (HB1.out.mono HB.out.size)).setCell hg _
 ·exact (KeepBut.of_below HB1.out g none).set_ 1 _
end Go.Proofs.Ytapholbdjccapaa.PFnExactTreeOk
