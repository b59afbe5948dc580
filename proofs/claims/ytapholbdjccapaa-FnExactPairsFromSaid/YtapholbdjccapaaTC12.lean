import Derived.Test.YtapholbdjccapaaTC11
import Derived.ProofKit
import Derived.OpenShut
import Derived.Deep.Slices
set_option maxHeartbeats 64000000
set_option maxRecDepth 100000
set_option linter.unusedVariables false
set_option linter.unusedSimpArgs false
namespace Go.Proofs.Ytapholbdjccapaa.PFnExactTreeOk
open Go.RowKit Go.Proofs.YtapholbdjccapaaW.PrintWords Go.Proofs.YtapholbdjccapaaW.PrintLast Go.Proofs.YtapholbdjccapaaW.PrintMore
attribute [local go_sem] max2_int min2_int max_two min_two max_three min_three max_four min_four
def laws_heldPairS.l0 : Nat → List (S140) → Int → Int → Option (Int)
 | 0, _, _, _ => none
 | k + 1, x0, x1, x5 => if x5 < (x0.length : Int) then (if 0 ≤ x5 then ((laws_markText.f k x1).bind fun t273 => (if ((rd_T140 x0 x5).f0).toList = t273.toList then ((laws_markText.f k (wrap64 (x1 + 1))).bind fun t275 => (if ((rd_T140 x0 x5).f1).toList = t275.toList then (laws_heldPairS.l0 k x0 (wrap64 ((wrap64 (x1 + 1)) + 1)) (wrap64 (x5 + 1))) else (none))) else (none))) else (none)) else (some x1)
def laws_heldPairS.f (k : Nat) (l0 : List (S140)) (a1 : Int) : Option (Int) := laws_heldPairS.l0 k l0 a1 0
theorem laws_heldPairS.mono_l : ∀ k, (∀ y0 y1 y2, LeO (laws_heldPairS.l0 k y0 y1 y2) (laws_heldPairS.l0 (k + 1) y0 y1 y2))
 | 0 => fun _ _ _ r h => by simp [laws_heldPairS.l0] at h
 | k + 1 => by
  have ih0 := laws_heldPairS.mono_l k
  ·intro y0 y1 y2
   unfold laws_heldPairS.l0
   repeat' first
   | (with_reducible exact ih0 _ _ _)
   | (with_reducible exact laws_markText.mono _ _)
   | (with_reducible exact LeO.refl _)
   | (with_reducible exact LeO.none _)
   | (with_reducible refine LeO.ite ?_ ?_)
   | (with_reducible refine LeO.bind ?_ (fun _ => ?_))
   | exact ih0 _ _ _
   | exact laws_markText.mono _ _
theorem laws_heldPairS.mono : ∀ a0 a1 k, LeO (laws_heldPairS.f k a0 a1) (laws_heldPairS.f (k + 1) a0 a1) := by
 intro a0 a1 k
 have ih0 := laws_heldPairS.mono_l k
 unfold laws_heldPairS.f
 repeat' first
   | (with_reducible exact ih0 _ _ _)
   | (with_reducible exact laws_markText.mono _ _)
   | (with_reducible exact LeO.refl _)
   | (with_reducible exact LeO.none _)
   | (with_reducible refine LeO.ite ?_ ?_)
   | (with_reducible refine LeO.bind ?_ (fun _ => ?_))
   | exact ih0 _ _ _
   | exact laws_markText.mono _ _
def laws_heldPairS.T4 : Bool × List (List Nat × List Nat) := (true, [([], []), ([], []), ([0, 1], [0, 1]), ([2], [2]), ([3], [3]), ([], []), ([5], [5]), ([4, 6], [4, 6])])
def laws_heldPairS.B4 : List Nat := [0, 0, 3, 7, 15, 0, 32, 127]
theorem laws_heldPairS.tab4 : rtab .any (opsOf Try.f46 4) = laws_heldPairS.T4 := by kernel_rfl
theorem laws_heldPairS.bits4 : waitsOk laws_heldPairS.T4.2 laws_heldPairS.B4 = true := by kernel_rfl
def laws_heldPairS.T7 : Bool × List (List Nat × List Nat) := (true, [([], []), ([], []), ([0, 1], [0, 1]), ([2], [2]), ([3], [3]), ([], []), ([5], [5]), ([4, 6], [4, 6])])
def laws_heldPairS.B7 : List Nat := [0, 0, 3, 7, 15, 0, 32, 127]
theorem laws_heldPairS.tab7 : rtab .any (opsOf Try.f46 7) = laws_heldPairS.T7 := by kernel_rfl
theorem laws_heldPairS.bits7 : waitsOk laws_heldPairS.T7.2 laws_heldPairS.B7 = true := by kernel_rfl
theorem laws_heldPairS.calls (k : Nat) (A0 : Option Addr) (c0 : Nat) (l0 : List (S140)) (a1 : Int) (r : Int) (w : World) (hr0 : Kd.C k140 w A0 l0.length l0) (hc0 : l0.length ≤ c0) (h : laws_heldPairS.f k l0 a1 = some r) :
  Calls Try.prog 46 #[.slice A0 l0.length c0, .int .i64 a1] w fun e w' => e = .returned (.int .i64 r) ∧ Below w.heap.size w w' := by
 have HR0 := Aside0.mk hr0
 have HC0 := Aside0.mk hc0
 clear hr0 hc0
 have HB := Aside0.mk (Below.refl w.heap.size w)
 have H : (laws_heldPairS.l0 k l0 a1 0) = some r := h
 clear h
 have H' := Aside0.mk H
 clear H
 go_enter Try.func46, Try.ntmps46
 go_wp2
 go_loopg [1, 5] k (fun kq v1 v5 w' => ∃ (x1_1 : Int) (x5_1 : Int), v1 = .int .i64 x1_1 ∧ v5 = .int .i64 x5_1 ∧ Aside0 (laws_heldPairS.l0 kq l0 x1_1 x5_1 = some r) ∧ Aside0 (kq ≤ k) ∧ Aside0 (Below w.heap.size w w'))
 case atStart => exact ⟨(a1), (0), (by first | rfl | (simp; done) | (simp [*]; done)), (by first | rfl | (simp; done) | (simp [*]; done)), H', ⟨Nat.le_refl _⟩, ⟨by repeat (first | (with_reducible first | exact HB.out | apply below_alloc | apply pw_below_drewN | apply below_drew1) | exact HB.out)⟩⟩
 case round =>
  clear H'
  obtain ⟨x1_1, x5_1, rfl, rfl, HA, HK1, HB⟩ := hrel
  cases gk with
  | zero => exact absurd HA.out (by simp [laws_heldPairS.l0])
  | succ k1 =>
   have H := HA.out
   clear HA
   simp only [laws_heldPairS.l0] at H
   by_cases c3 : x5_1 < (l0.length : Int)
   ·rw [if_pos c3] at H
    have c3b0 : decide (x5_1 < (l0.length : Int)) = true := decide_eq_true c3
    clear c3
    by_cases c4 : 0 ≤ x5_1
    ·rw [if_pos c4] at H
     have c4b0 : decide (0 ≤ x5_1) = true := decide_eq_true c4
     clear c4
     replace H := Option.bind_eq_some_iff.mp H
     obtain ⟨t273, A50, H⟩ := H
     replace H : (if ((rd_T140 l0 x5_1).f0).toList = t273.toList then ((laws_markText.f k1 (wrap64 (x1_1 + 1))).bind fun t275 => (if ((rd_T140 l0 x5_1).f1).toList = t275.toList then (laws_heldPairS.l0 k1 l0 (wrap64 ((wrap64 (x1_1 + 1)) + 1)) (wrap64 (x5_1 + 1))) else (none))) else (none)) = some r := H
     have A5 := Aside0.mk A50
     clear A50
     by_cases c6 : ((rd_T140 l0 x5_1).f0).toList = t273.toList
     ·rw [if_pos c6] at H
      have c6b0 : (((rd_T140 l0 x5_1).f0).toList == t273.toList) = true := beq_iff_eq.mpr c6
      have c6b1 : (((rd_T140 l0 x5_1).f0).toList != t273.toList) = false := bne_eq_false_iff_eq.mpr c6
      clear c6
      replace H := Option.bind_eq_some_iff.mp H
      obtain ⟨t275, A70, H⟩ := H
      replace H : (if ((rd_T140 l0 x5_1).f1).toList = t275.toList then (laws_heldPairS.l0 k1 l0 (wrap64 ((wrap64 (x1_1 + 1)) + 1)) (wrap64 (x5_1 + 1))) else (none)) = some r := H
      have A7 := Aside0.mk A70
      clear A70
      by_cases c8 : ((rd_T140 l0 x5_1).f1).toList = t275.toList
      ·rw [if_pos c8] at H
       have c8b0 : (((rd_T140 l0 x5_1).f1).toList == t275.toList) = true := beq_iff_eq.mpr c8
       have c8b1 : (((rd_T140 l0 x5_1).f1).toList != t275.toList) = false := bne_eq_false_iff_eq.mpr c8
       clear c8
       have H' := Aside0.mk H
       clear H
       try go_wp2
       have n0_ := Aside0.mk (below_drew1 HB.out)
       clear HB
       have HB := n0_
       clear n0_
       have p272 : 0 ≤ (x5_1 : Int) := of_decide_eq_true (by with_reducible assumption)
       have q272 : x5_1 < (l0.length : Int) := of_decide_eq_true (by with_reducible assumption)
       obtain ⟨ad272, e272, hx272_0, hx272_1⟩ := at_T140 HR0.out x5_1 p272 q272
       have hw272_1 := hx272_1
       have hw272_0 := hx272_0
       cases e272
       replace hx272_0 := (HB.out.cell (World.block_lt_of_cell? w _ hx272_0)).trans hx272_0
       replace hx272_1 := (HB.out.cell (World.block_lt_of_cell? w _ hx272_1)).trans hx272_1
       replace p272 := eq_true p272
       replace q272 := eq_true q272
       refine start_ (n := 8) (S := fun w' => w'.cell? (ad272.add ((x5_1).toNat * 2)) = some (.string ((rd_T140 l0 x5_1).f0)) ∧ w'.cell? ⟨(ad272.add ((x5_1).toNat * 2)).block, (ad272.add ((x5_1).toNat * 2)).off + 1, none⟩ = some (.string ((rd_T140 l0 x5_1).f1))) (ds := []) #[false, false, false, false, false, false, false, false] (by kernel_rfl) rfl rfl ⟨((HB.out.cell (World.block_lt_of_cell? w _ hw272_0)).trans hw272_0), ((HB.out.cell (World.block_lt_of_cell? w _ hw272_1)).trans hw272_1)⟩ (fun hHeld => ?_); refine with_tabW laws_heldPairS.tab4 laws_heldPairS.bits4 (fun HT_ HW_ => ?_)
       generalize wr.drew = w9 at HB hx272_0 hx272_1 hHeld ⊢
       refine pure_ (i := 0) (N := some 12) (v := ?_) (a' := ?_) #[true, false, false, false, false, false, false, false] rfl rfl (any_of HT_.out (by kernel_rfl)) (fun _ _ _ h => h) (Or.inl ⟨by rfl, ?_⟩) ?_ ?_
       rotate_left
       ·intro w'
        go_simp
        with_reducible rfl
       rotate_left
       ·simp only [Act.put, List.setIfInBounds_toArray, List.set_cons_zero, List.set_cons_succ, i64_w, i32_w]
        rfl
       refine pure_ (i := 1) (N := some 13) (v := ?_) (a' := ?_) #[true, true, false, false, false, false, false, false] rfl rfl (any_of HT_.out (by kernel_rfl)) (fun _ _ _ h => h) (Or.inl ⟨by rfl, ?_⟩) ?_ ?_
       rotate_left
       ·intro w'
        go_simp
        with_reducible rfl
       rotate_left
       ·simp only [Act.put, List.setIfInBounds_toArray, List.set_cons_zero, List.set_cons_succ, i64_w, i32_w]
        rfl
       refine pure_ (i := 2) (N := some 14) (v := ?_) (a' := ?_) #[true, true, true, false, false, false, false, false] rfl rfl (any_of HT_.out (by kernel_rfl)) (fun _ _ _ h => h) (Or.inl ⟨by rfl, ?_⟩) ?_ ?_
       rotate_left
       ·intro w'
        go_simp
        with_reducible rfl
       rotate_left
       ·simp only [Act.put, List.setIfInBounds_toArray, List.set_cons_zero, List.set_cons_succ, i64_w, i32_w]
        rfl
       refine pure_ (i := 3) (N := some 15) (v := ?_) (a' := ?_) #[true, true, true, true, false, false, false, false] rfl rfl (any_of HT_.out (by kernel_rfl)) (fun _ _ _ h => h) (Or.inl ⟨by rfl, ?_⟩) ?_ ?_
       rotate_left
       ·intro w'
        go_simp
        with_reducible rfl
       rotate_left
       ·simp only [Act.put, List.setIfInBounds_toArray, List.set_cons_zero, List.set_cons_succ, i64_w, i32_w]
        rfl
       refine pure_ (i := 5) (N := some 17) (v := ?_) (a' := ?_) #[true, true, true, true, false, true, false, false] rfl rfl (any_of HT_.out (by kernel_rfl)) (fun _ _ _ h => h) (Or.inl ⟨by rfl, ?_⟩) ?_ ?_
       rotate_left
       ·intro w'
        go_simp
        with_reducible rfl
       rotate_left
       ·simp only [Act.put, List.setIfInBounds_toArray, List.set_cons_zero, List.set_cons_succ, i64_w, i32_w]
        rfl
       refine take_ (i := 4) (N := some 16) (v := ?_) (a' := ?_) #[true, true, true, true, true, true, false, false] rfl rfl (take_ofW HT_.out HW_.out (by kernel_rfl)) (fun _ _ _ h => h) (Or.inl ⟨by rfl, ?_⟩) hHeld ?_ ?_
       rotate_left
       ·rintro w' ⟨s0, s1⟩
        go_simp
        with_reducible rfl
       rotate_left
       ·simp only [Act.put, List.setIfInBounds_toArray, List.set_cons_zero, List.set_cons_succ, i64_w, i32_w]
        rfl
       refine one_ (i := 6) (N := some 18) #[true, true, true, true, true, true, true, false] rfl rfl (one_of HT_.out (by kernel_rfl)) (by decide) (fun K hK => ?_)
       refine goes_ Try.func108 (by kernel_rfl) rfl #[.int .i64 x1_1] (by rfl) rfl rfl (by (try simp only [List.map_toArray, List.map_cons, List.map_nil]); first | done | rfl | (simp only [List.length_drop, List.length_take]; rfl)) ?_
       with_reducible refine (laws_markText.calls k1 x1_1 t273 _ A5.out).mono ?_
       rintro e w10 ⟨rfl, hb⟩
       refine ⟨_, rfl, ?_⟩
       have n0_ := Aside0.mk (below_step (by repeat (first | (with_reducible first | exact HB.out | apply below_alloc | apply pw_below_drewN | apply below_drew1) | exact HB.out)) hb)
       clear HB
       have HB := n0_
       clear n0_
       (try clear hb)
       (try clear hb2)
       (try clear hk)
       (try clear hi)
       refine hK.out _ _ ⟨((HB.out.cell (World.block_lt_of_cell? w _ hw272_0)).trans hw272_0), ((HB.out.cell (World.block_lt_of_cell? w _ hw272_1)).trans hw272_1)⟩ (fun hHeld => ?_)
       clear hK K
       refine norm_ (a' := ?_) ?_ ?_
       rotate_left
       ·show Act.put _ (some 18) _ = _
        simp only [Act.put, List.setIfInBounds_toArray, List.set_cons_zero, List.set_cons_succ, i64_w, i32_w]
        rfl
       refine pure_ (i := 7) (N := some 19) (v := ?_) (a' := ?_) #[true, true, true, true, true, true, true, true] rfl rfl (any_of HT_.out (by kernel_rfl)) (fun _ _ _ h => h) (Or.inl ⟨by rfl, ?_⟩) ?_ ?_
       rotate_left
       ·intro w'
        go_simp
        with_reducible rfl
       rotate_left
       ·simp only [Act.put, List.setIfInBounds_toArray, List.set_cons_zero, List.set_cons_succ, i64_w, i32_w]
        rfl
       refine done_ (done_of HT_.out (by kernel_rfl)) ?_
       try go_wp2
       have n0_ := Aside0.mk (below_drew1 HB.out)
       clear HB
       have HB := n0_
       clear n0_
       have p274 : 0 ≤ (x5_1 : Int) := of_decide_eq_true (by with_reducible assumption)
       have q274 : x5_1 < (l0.length : Int) := of_decide_eq_true (by with_reducible assumption)
       obtain ⟨ad274, e274, hx274_0, hx274_1⟩ := at_T140 HR0.out x5_1 p274 q274
       have hw274_1 := hx274_1
       have hw274_0 := hx274_0
       obtain rfl : ad272 = ad274 := (by injection e274)
       replace hx274_0 := (HB.out.cell (World.block_lt_of_cell? w _ hx274_0)).trans hx274_0
       replace hx274_1 := (HB.out.cell (World.block_lt_of_cell? w _ hx274_1)).trans hx274_1
       replace p274 := eq_true p274
       replace q274 := eq_true q274
       refine start_ (n := 8) (S := fun w' => w'.cell? (ad272.add ((x5_1).toNat * 2)) = some (.string ((rd_T140 l0 x5_1).f0)) ∧ w'.cell? ⟨(ad272.add ((x5_1).toNat * 2)).block, (ad272.add ((x5_1).toNat * 2)).off + 1, none⟩ = some (.string ((rd_T140 l0 x5_1).f1))) (ds := []) #[false, false, false, false, false, false, false, false] (by kernel_rfl) rfl rfl ⟨((HB.out.cell (World.block_lt_of_cell? w _ hw274_0)).trans hw274_0), ((HB.out.cell (World.block_lt_of_cell? w _ hw274_1)).trans hw274_1)⟩ (fun hHeld => ?_); refine with_tabW laws_heldPairS.tab7 laws_heldPairS.bits7 (fun HT_ HW_ => ?_)
       generalize w10.drew = w11 at HB hx274_0 hx274_1 hHeld ⊢
       refine pure_ (i := 0) (N := some 22) (v := ?_) (a' := ?_) #[true, false, false, false, false, false, false, false] rfl rfl (any_of HT_.out (by kernel_rfl)) (fun _ _ _ h => h) (Or.inl ⟨by rfl, ?_⟩) ?_ ?_
       rotate_left
       ·intro w'
        go_simp
        with_reducible rfl
       rotate_left
       ·simp only [Act.put, List.setIfInBounds_toArray, List.set_cons_zero, List.set_cons_succ, i64_w, i32_w]
        rfl
       refine pure_ (i := 1) (N := some 23) (v := ?_) (a' := ?_) #[true, true, false, false, false, false, false, false] rfl rfl (any_of HT_.out (by kernel_rfl)) (fun _ _ _ h => h) (Or.inl ⟨by rfl, ?_⟩) ?_ ?_
       rotate_left
       ·intro w'
        go_simp
        with_reducible rfl
       rotate_left
       ·simp only [Act.put, List.setIfInBounds_toArray, List.set_cons_zero, List.set_cons_succ, i64_w, i32_w]
        rfl
       refine pure_ (i := 2) (N := some 24) (v := ?_) (a' := ?_) #[true, true, true, false, false, false, false, false] rfl rfl (any_of HT_.out (by kernel_rfl)) (fun _ _ _ h => h) (Or.inl ⟨by rfl, ?_⟩) ?_ ?_
       rotate_left
       ·intro w'
        go_simp
        with_reducible rfl
       rotate_left
       ·simp only [Act.put, List.setIfInBounds_toArray, List.set_cons_zero, List.set_cons_succ, i64_w, i32_w]
        rfl
       refine pure_ (i := 3) (N := some 25) (v := ?_) (a' := ?_) #[true, true, true, true, false, false, false, false] rfl rfl (any_of HT_.out (by kernel_rfl)) (fun _ _ _ h => h) (Or.inl ⟨by rfl, ?_⟩) ?_ ?_
       rotate_left
       ·intro w'
        go_simp
        with_reducible rfl
       rotate_left
       ·simp only [Act.put, List.setIfInBounds_toArray, List.set_cons_zero, List.set_cons_succ, i64_w, i32_w]
        rfl
       refine pure_ (i := 5) (N := some 27) (v := ?_) (a' := ?_) #[true, true, true, true, false, true, false, false] rfl rfl (any_of HT_.out (by kernel_rfl)) (fun _ _ _ h => h) (Or.inl ⟨by rfl, ?_⟩) ?_ ?_
       rotate_left
       ·intro w'
        go_simp
        with_reducible rfl
       rotate_left
       ·simp only [Act.put, List.setIfInBounds_toArray, List.set_cons_zero, List.set_cons_succ, i64_w, i32_w]
        rfl
       refine take_ (i := 4) (N := some 26) (v := ?_) (a' := ?_) #[true, true, true, true, true, true, false, false] rfl rfl (take_ofW HT_.out HW_.out (by kernel_rfl)) (fun _ _ _ h => h) (Or.inl ⟨by rfl, ?_⟩) hHeld ?_ ?_
       rotate_left
       ·rintro w' ⟨s0, s1⟩
        go_simp
        with_reducible rfl
       rotate_left
       ·simp only [Act.put, List.setIfInBounds_toArray, List.set_cons_zero, List.set_cons_succ, i64_w, i32_w]
        rfl
       refine one_ (i := 6) (N := some 28) #[true, true, true, true, true, true, true, false] rfl rfl (one_of HT_.out (by kernel_rfl)) (by decide) (fun K hK => ?_)
       refine goes_ Try.func108 (by kernel_rfl) rfl #[.int .i64 (wrap64 (x1_1 + 1))] (by rfl) rfl rfl (by (try simp only [List.map_toArray, List.map_cons, List.map_nil]); first | done | rfl | (simp only [List.length_drop, List.length_take]; rfl)) ?_
       with_reducible refine (laws_markText.calls k1 (wrap64 (x1_1 + 1)) t275 _ A7.out).mono ?_
       rintro e w12 ⟨rfl, hb⟩
       refine ⟨_, rfl, ?_⟩
       have n0_ := Aside0.mk (below_step (by repeat (first | (with_reducible first | exact HB.out | apply below_alloc | apply pw_below_drewN | apply below_drew1) | exact HB.out)) hb)
       clear HB
       have HB := n0_
       clear n0_
       (try clear hb)
       (try clear hb2)
       (try clear hk)
       (try clear hi)
       refine hK.out _ _ ⟨((HB.out.cell (World.block_lt_of_cell? w _ hw274_0)).trans hw274_0), ((HB.out.cell (World.block_lt_of_cell? w _ hw274_1)).trans hw274_1)⟩ (fun hHeld => ?_)
       clear hK K
       refine norm_ (a' := ?_) ?_ ?_
       rotate_left
       ·show Act.put _ (some 28) _ = _
        simp only [Act.put, List.setIfInBounds_toArray, List.set_cons_zero, List.set_cons_succ, i64_w, i32_w]
        rfl
       refine pure_ (i := 7) (N := some 29) (v := ?_) (a' := ?_) #[true, true, true, true, true, true, true, true] rfl rfl (any_of HT_.out (by kernel_rfl)) (fun _ _ _ h => h) (Or.inl ⟨by rfl, ?_⟩) ?_ ?_
       rotate_left
       ·intro w'
        go_simp
        with_reducible rfl
       rotate_left
       ·simp only [Act.put, List.setIfInBounds_toArray, List.set_cons_zero, List.set_cons_succ, i64_w, i32_w]
        rfl
       refine done_ (done_of HT_.out (by kernel_rfl)) ?_
       try go_wp2
       go_roundg k1
       case measure => have := HK1.out; omega
       case rel => exact ⟨(wrap64 ((wrap64 (x1_1 + 1)) + 1)), (wrap64 (x5_1 + 1)), (by first | rfl | (simp; done) | (simp [*]; done)), (by first | rfl | (simp; done) | (simp [*]; done)), H', ⟨by have := HK1.out; omega⟩, ⟨by repeat (first | (with_reducible first | exact HB.out | apply below_alloc | apply pw_below_drewN | apply below_drew1) | exact HB.out)⟩⟩
      ·rw [if_neg c8] at H
       exact absurd H (by simp)
     ·rw [if_neg c6] at H
      exact absurd H (by simp)
    ·rw [if_neg c4] at H
     exact absurd H (by simp)
   ·rw [if_neg c3] at H
    have c3b0 : decide (x5_1 < (l0.length : Int)) = false := decide_eq_false c3
    clear c3
    obtain rfl := Option.some.inj H
    go_wp2
    go_ret
    exact ⟨by first | rfl | (simp [errW_none, errW_some] <;> rfl) | (simp [*, errW_none, errW_some] <;> rfl), by repeat (first | (with_reducible first | exact HB.out | apply below_alloc | apply pw_below_drewN | apply below_drew1) | exact HB.out)⟩
theorem held_n {f n m : Nat} {A : Option Addr} {c : Nat} {x : Value} {w : World} {post : Ending → World → Prop} (e : m = n) (h : Calls Try.prog f #[.slice A m c, x] w post) : Calls Try.prog f #[.slice A n c, x] w post := by subst e; exact h
theorem pairs_same {rn : Int → S68 × Bool} (hg : RnG rn) (root : Int) : prOf (tof rn root) = prOf (look rn root) := by
 unfold tof look
 by_cases hr : root = 0
 ·rw [if_pos hr, if_pos hr]
  rfl
 ·rw [if_neg hr, if_neg hr]
  have h := sync hg 9 0 st0 ss0 root ⟨#[]⟩ ⟨#[]⟩ false ⟨rfl, rfl, rfl, rfl, rfl⟩
  rw [Int.zero_add] at h
  unfold prOf
  rcases h with ⟨h1, h2⟩ | ⟨⟨s1, s2, s3, s4, s5⟩, _⟩
  ·rw [if_pos h1, if_pos h2]
  ·rw [s4, s5, s2]
theorem tof_len {rn : Int → S68 × Bool} (hl : RnLen rn) (root : Int) : (prOf (tof rn root)).1.length ≤ 349524 := by
 have h : (tof rn root).pr.length ≤ 349524 := by
  unfold tof
  split
  ·simp [st0]
  ·have := (dn_len hl 9 st0 root 1).2.2.1
   simpa [nf, st0] using this
 unfold prOf
 split
 ·simp
 ·exact h
theorem mt_go : ∀ (n : Nat) (a : Int) (x : ByteArray), 0 ≤ a → a < 10 ^ n → a ≤ 9223372036854775807 → x.size + n ≤ 1000 → ∃ t, laws_markText.l0 (n + 1) a x = some t := by
 intro n
 induction n with
 | zero =>
  intro a x h0 h1 _ h2
  rw [laws_markText.l0, if_neg (by omega), if_pos (by omega)]
  exact ⟨_, rfl⟩
 | succ n ih =>
  intro a x h0 h1 hb h2
  by_cases ha : a > 0
  ·rw [laws_markText.l0, if_pos ha, Option.bind_some, if_pos (by rw [strOfNums_size]; simp; omega)]
   have e : wrap64 (Int.tdiv a 10) = a / 10 := by rw [Int.tdiv_eq_ediv_of_nonneg h0]; exact wrap_in (by omega) (by omega)
   rw [e]
   refine ih (a / 10) _ (by omega) ?_ (by omega) ?_
   ·rw [Int.pow_succ] at h1
    omega
   ·rw [ByteArray.size_append, strOfNums_size]
    simp
    omega
  ·rw [laws_markText.l0, if_neg ha, if_pos (by omega)]
   exact ⟨_, rfl⟩
theorem mt_ex (a : Int) (h0 : 0 < a) (h1 : a < 1000000000000) : ∃ t, Ev (fun k => laws_markText.f k a) t := by
 obtain ⟨t, ht⟩ := mt_go 12 a ⟨#[]⟩ (by omega) (by simpa using h1) (by omega) (by decide)
 refine ⟨t, Ev.of (k := 13) (fun k => laws_markText.mono _ k) ?_⟩
 unfold laws_markText.f
 rw [if_neg (by omega)]
 exact ht
open Classical in
noncomputable def mt (a : Int) : ByteArray := if h : ∃ t, Ev (fun k => laws_markText.f k a) t then Classical.choose h else ⟨#[]⟩
theorem mt_ev (a : Int) (h0 : 0 < a) (h1 : a < 1000000000000) : Ev (fun k => laws_markText.f k a) (mt a) := by
 unfold mt
 rw [dif_pos (mt_ex a h0 h1)]
 exact Classical.choose_spec (mt_ex a h0 h1)
theorem mS_go : ∀ (n i : Nat) (l : List ByteArray) (a : Int), i + n = l.length → 0 < a → a + n < 1000000000 → l.length ≤ 1048576 → ∃ l', Ev (fun k => laws_markStringS.l0 k l a (i : Int)) (a + n, l') := by
 intro n
 induction n with
 | zero =>
  intro i l a hi h0 h1 hl
  refine ⟨l, Ev.step (f := fun _ => some (a + ((0 : Nat) : Int), l)) (fun k => ?_) (Ev.now _)⟩
  rw [laws_markStringS.l0, if_neg (by omega)]
  simp
 | succ n ih =>
  intro i l a hi h0 h1 hl
  obtain ⟨l', h'⟩ := ih (i + 1) (l.set i (mt a)) (a + 1) (by rw [List.length_set]; omega) (by omega) (by omega) (by rw [List.length_set]; exact hl)
  refine ⟨l', Ev.step (f := fun k => (laws_markText.f k a).bind fun t => laws_markStringS.l0 k (l.set i t) (a + 1) ((i + 1 : Nat) : Int)) (fun k => ?_) (Ev.bind (mt_ev a h0 (by omega)) ?_)⟩
  ·rw [laws_markStringS.l0, if_pos (by omega)]
   congr 1
   funext t
   rw [if_pos (by omega), wrap_in (by omega) (by omega), wrap_in (by omega) (by omega), Int.toNat_natCast]
   rfl
  ·have : a + 1 + (n : Int) = a + ((n + 1 : Nat) : Int) := by omega
   rw [← this]
   exact h'
theorem mP_go : ∀ (n i : Nat) (l : List S189) (a : Int), i + n = l.length → 0 < a → a + 2 * n < 1000000000 → l.length ≤ 1048576 → ∃ l', Ev (fun k => laws_markPutS.l0 k l a (i : Int)) (a + 2 * n, l') := by
 intro n
 induction n with
 | zero =>
  intro i l a hi h0 h1 hl
  refine ⟨l, Ev.step (f := fun _ => some (a + 2 * ((0 : Nat) : Int), l)) (fun k => ?_) (Ev.now _)⟩
  rw [laws_markPutS.l0, if_neg (by omega)]
  simp
 | succ n ih =>
  intro i l a hi h0 h1 hl
  obtain ⟨l1, hl1⟩ : ∃ z, z = l.set i (⟨a, (rd_T189 l i).f1⟩ : S189) := ⟨_, rfl⟩
  have hs : l1.length = l.length := by rw [hl1, List.length_set]
  obtain ⟨l', h'⟩ := ih (i + 1) (l1.set i (⟨(rd_T189 l1 i).f0, mt (a + 1)⟩ : S189)) (a + 2) (by rw [List.length_set, hs]; omega) (by omega) (by omega) (by rw [List.length_set, hs]; exact hl)
  refine ⟨l', Ev.step (f := fun k => (laws_markText.f k (a + 1)).bind fun t => laws_markPutS.l0 k (l1.set i (⟨(rd_T189 l1 i).f0, t⟩ : S189)) (a + 2) ((i + 1 : Nat) : Int)) (fun k => ?_) (Ev.bind (mt_ev (a + 1) (by omega) (by omega)) ?_)⟩
  ·rw [laws_markPutS.l0, if_pos (by omega), if_pos (by omega), Option.bind_some, Int.toNat_natCast, ← hl1, wrap_in (x := a + 1) (by omega) (by omega), wrap_in (x := a + 1 + 1) (by omega) (by omega), wrap_in (x := (i : Int) + 1) (by omega) (by omega), show a + 1 + 1 = a + 2 by omega]
   rfl
  ·have : a + 2 + 2 * (n : Int) = a + 2 * ((n + 1 : Nat) : Int) := by omega
   rw [← this]
   exact h'
theorem mD_ev (pages : List ByteArray) (late : List S189) (h1 : pages.length ≤ 1048576) (h2 : late.length ≤ 1048576) : ∃ k p l, Ev (fun f => laws_markDisk.f f pages late 1) (k, p, l) ∧ ¬ k < 0 := by
 obtain ⟨p, hp⟩ := mS_go pages.length 0 pages 1 (by omega) (by omega) (by omega) h1
 obtain ⟨l, hl⟩ := mP_go late.length 0 late (1 + pages.length) (by omega) (by omega) (by omega) h2
 exact ⟨_, p, l, Ev.bind hp (Ev.bind hl (Ev.now _)), by omega⟩
noncomputable def marks (n : Nat) : List S140 := (List.range n).map fun (j : Nat) => ⟨mt (1 + 2 * (j : Int)), mt (1 + 2 * (j : Int) + 1)⟩
theorem marks_len (n : Nat) : (marks n).length = n := by simp [marks]
theorem marks_at (n i : Nat) (h : i < (marks n).length) : (marks n)[i] = ⟨mt (1 + 2 * (i : Int)), mt (1 + 2 * (i : Int) + 1)⟩ := by simp [marks]
theorem rd140 (xs : List S140) (i : Nat) (h : i < xs.length) : rd_T140 xs (i : Int) = xs[i] := rd_T140_nat xs i h
theorem mkP_go (l : List S140) (hl : l.length ≤ 1048576) : ∀ (n i : Nat), i + n = l.length → Ev (fun k => laws_markPairS.l0 k ((marks l.length).take i ++ l.drop i) (1 + 2 * (i : Int)) (i : Int)) (1 + 2 * (l.length : Int), marks l.length) := by
 intro n
 induction n with
 | zero =>
  intro i hi
  have : i = l.length := by omega
  subst this
  refine Ev.step (f := fun _ => some (1 + 2 * (l.length : Int), marks l.length)) (fun k => ?_) (Ev.now _)
  rw [laws_markPairS.l0, if_neg (by simp [marks_len]), List.drop_length, List.append_nil, List.take_of_length_le (by rw [marks_len]; omega)]
 | succ n ih =>
  intro i hi
  have hlt : i < l.length := by omega
  have hm : i < (marks l.length).length := by rw [marks_len]; exact hlt
  obtain ⟨xs, hxs⟩ : ∃ z, z = (marks l.length).take i ++ l.drop i := ⟨_, rfl⟩
  have hti : ((marks l.length).take i).length = i := by rw [List.length_take]; omega
  have hlen : xs.length = l.length := by rw [hxs, List.length_append, hti, List.length_drop]; omega
  have hset : ∀ y : S140, xs.set i y = ((marks l.length).take i ++ [y]) ++ l.drop (i + 1) := by
   intro y
   rw [hxs, List.drop_eq_getElem_cons hlt]
   have := set_front ((marks l.length).take i) (l.drop (i + 1)) l[i] y
   rw [hti] at this
   exact this
  rw [← hxs]
  refine Ev.step (f := fun k => (laws_markText.f k (1 + 2 * (i : Int))).bind fun t => (laws_markText.f k (1 + 2 * (i : Int) + 1)).bind fun t' => laws_markPairS.l0 k (xs.set i ⟨t, t'⟩) (1 + 2 * ((i + 1 : Nat) : Int)) ((i + 1 : Nat) : Int)) (fun k => ?_) (Ev.bind (mt_ev _ (by omega) (by omega)) (Ev.bind (mt_ev _ (by omega) (by omega)) ?_))
  ·rw [laws_markPairS.l0, if_pos (by omega)]
   congr 1
   funext t
   rw [if_pos (by omega), Option.bind_some, Int.toNat_natCast, wrap_in (x := 1 + 2 * (i : Int) + 1) (by omega) (by omega), wrap_in (x := 1 + 2 * (i : Int) + 1 + 1) (by omega) (by omega), wrap_in (x := (i : Int) + 1) (by omega) (by omega)]
   congr 1
   funext t'
   rw [rd140 xs i (by omega), rd140 (xs.set i _) i (by rw [List.length_set]; omega), List.getElem_set_self, List.set_set, show (1 : Int) + 2 * (i : Int) + 1 + 1 = 1 + 2 * ((i + 1 : Nat) : Int) by omega]
   rfl
  ·rw [hset]
   have e := marks_at l.length i hm
   rw [← e, List.take_append_getElem hm]
   exact ih (i + 1) (by omega)
theorem mkP_ev (l : List S140) (hl : l.length ≤ 1048576) : Ev (fun k => laws_markPairS.f k l 1) (1 + 2 * (l.length : Int), marks l.length) := by
 have := mkP_go l hl l.length 0 (by omega)
 show Ev (fun k => laws_markPairS.l0 k l 1 0) _
 simpa using this
theorem hdP_go (m : Nat) (hm : m ≤ 1048576) : ∀ (n i : Nat), i + n = m → Ev (fun k => laws_heldPairS.l0 k (marks m) (1 + 2 * (i : Int)) (i : Int)) (1 + 2 * (m : Int)) := by
 intro n
 induction n with
 | zero =>
  intro i hi
  refine Ev.step (f := fun _ => some (1 + 2 * (m : Int))) (fun k => ?_) (Ev.now _)
  rw [laws_heldPairS.l0, if_neg (by rw [marks_len]; omega), show i = m by omega]
 | succ n ih =>
  intro i hi
  have hlt : i < (marks m).length := by rw [marks_len]; omega
  have e := marks_at m i hlt
  refine Ev.step (f := fun k => (laws_markText.f k (1 + 2 * (i : Int))).bind fun t => if (mt (1 + 2 * (i : Int))).toList = t.toList then (laws_markText.f k (1 + 2 * (i : Int) + 1)).bind fun t' => (if (mt (1 + 2 * (i : Int) + 1)).toList = t'.toList then laws_heldPairS.l0 k (marks m) (1 + 2 * ((i + 1 : Nat) : Int)) ((i + 1 : Nat) : Int) else none) else none) (fun k => ?_) (Ev.bind (mt_ev _ (by omega) (by omega)) ?_)
  ·rw [laws_heldPairS.l0, if_pos (by rw [marks_len]; omega), if_pos (by omega), rd140 _ _ hlt, e, wrap_in (x := 1 + 2 * (i : Int) + 1) (by omega) (by omega), wrap_in (x := 1 + 2 * (i : Int) + 1 + 1) (by omega) (by omega), wrap_in (x := (i : Int) + 1) (by omega) (by omega), show (1 : Int) + 2 * (i : Int) + 1 + 1 = 1 + 2 * ((i + 1 : Nat) : Int) by omega]
   rfl
  ·simp only [if_true]
   refine Ev.bind (mt_ev _ (by omega) (by omega)) ?_
   simp only [if_true]
   exact ih (i + 1) (by omega)
theorem hdP_ev (m : Nat) (hm : m ≤ 1048576) : Ev (fun k => laws_heldPairS.f k (marks m) 1) (1 + 2 * (m : Int)) := by
 have := hdP_go m hm m 0 (by omega)
 show Ev (fun k => laws_heldPairS.l0 k (marks m) 1 0) _
 simpa using this
theorem eqPr_go (l : List S140) (hl : l.length ≤ 1048576) : ∀ (n i : Nat), i + n = l.length → laws_eqPairS.l0 (n + 1) l l (i : Int) = some true := by
 intro n
 induction n with
 | zero => intro i hi; rw [laws_eqPairS.l0, if_neg (by omega)]
 | succ n ih =>
  intro i hi
  rw [laws_eqPairS.l0, if_pos (by omega), if_pos (by omega), if_pos (by omega), laws_eqPair.f, if_pos rfl, if_pos rfl, Option.bind_some, if_pos rfl, wrap_in (by omega) (by omega), show (i : Int) + 1 = ((i + 1 : Nat) : Int) by omega]
  exact ih (i + 1) (by omega)
theorem eqPr_ev (l : List S140) (hl : l.length ≤ 1048576) : Ev (fun k => laws_eqPairS.f k l l) true := by
 refine Ev.of (k := l.length + 1) (fun k => laws_eqPairS.mono _ _ k) ?_
 unfold laws_eqPairS.f
 rw [if_pos rfl]
 exact eqPr_go l hl l.length 0 (by omega)
def outK (a b : ByteArray) (x : S140) : Bool := Op.bytesLess x.f0.toList a.toList || !(Op.bytesLess x.f0.toList b.toList)
def TwoTexts (B1 B2 : Nat) (a b : ByteArray) (W : World) : Prop := W.heap[B1]? = some (.cells #[.string a] 9 (0, 0)) ∧ W.heap[B2]? = some (.cells #[.string b] 9 (0, 0))
theorem enters110 : ∀ args w, (callFunc 110 args).run Try.prog w = .ok (.enter 110 args) w := enters_of Try.func110 (by kernel_rfl) rfl
theorem pred110 (a b : ByteArray) (B1 B2 : Nat) (W : World) (x : S140) (h : TwoTexts B1 B2 a b W) :
  Calls Try.prog 110 (#[encP x] ++ #[.pointer (some ⟨B1, 0, none⟩), .pointer (some ⟨B2, 0, none⟩)]) W fun e w' => e = .returned (.bool (outK a b x)) ∧ Below W.heap.size W w' := by
 have hc1 : W.cell? ⟨B1, 0, none⟩ = some (.string a) := (blk_cell h.1 0).trans rfl
 have hc2 : W.cell? ⟨B2, 0, none⟩ = some (.string b) := (blk_cell h.2 0).trans rfl
 have hl1 := blk_lt h.1
 have hl2 := blk_lt h.2
 have hn1 : B1 ≠ W.heap.size := by have := blk_lt h.1; omega
 have hn2 : B2 ≠ W.heap.size := by have := blk_lt h.2; omega
 show Calls Try.prog 110 #[.agg #[.string x.f0, .string x.f1], .pointer (some ⟨B1, 0, none⟩), .pointer (some ⟨B2, 0, none⟩)] W _
 clear h
 cases h1 : Op.bytesLess x.f0.toList a.toList with
 | true =>
  go_enter Try.func110, Try.ntmps110
  go_wp2
  repeat (go_quiet (fail); try go_wp2)
  go_ret
  exact ⟨by simp [outK, h1], below_alloc (Below.refl _ _) _⟩
 | false =>
  cases h2 : Op.bytesLess x.f0.toList b.toList with
  | true =>
   go_enter Try.func110, Try.ntmps110
   go_wp2
   repeat (go_quiet (fail); try go_wp2)
   go_ret
   exact ⟨by simp [outK, h1, h2], below_alloc (Below.refl _ _) _⟩
  | false =>
   go_enter Try.func110, Try.ntmps110
   go_wp2
   repeat (go_quiet (fail); try go_wp2)
   go_ret
   exact ⟨by simp [outK, h1, h2], below_alloc (Below.refl _ _) _⟩
theorem look_len {rn : Int → S68 × Bool} (hl : RnLen rn) (root : Int) : (prOf (look rn root)).1.length ≤ 349524 := by
 have h : (look rn root).pr.length ≤ 349524 := by
  unfold look
  split
  ·simp [ss0]
  ·have := (sw_len hl 9 ss0 root 0 ⟨#[]⟩ ⟨#[]⟩ false).2.1
   simpa [nf, ss0] using this
 unfold prOf
 split
 ·simp
 ·exact h
noncomputable def impl_PairsFrom.f (l0_0 : List ByteArray) (l0_1 : List S189) (a1 : Int) (a2 a3 : ByteArray) : Option (List S140) := (rnOf l0_0 l0_1).map fun rn => (prOf (tof rn a1)).1.filter (np (outK a2 a3))
noncomputable def spec_PairsFrom.f (l0_0 : List ByteArray) (l0_1 : List S189) (a1 : Int) (a2 a3 : ByteArray) : Option (List S140) := (rnOf l0_0 l0_1).map fun rn => (prOf (look rn a1)).1.filter (np (outK a2 a3))
theorem impl_PairsFrom.calls (A0_0 : Option Addr) (c0_0 : Nat) (l0_0 : List ByteArray) (A0_1 : Option Addr) (c0_1 : Nat) (l0_1 : List S189) (a1 : Int) (a2 a3 : ByteArray) (r : List S140) (w : World) (hr0_0 : Kd.C Kd.string w A0_0 l0_0.length l0_0) (hc0_0 : l0_0.length ≤ c0_0) (hr0_1 : Kd.C k189 w A0_1 l0_1.length l0_1) (hc0_1 : l0_1.length ≤ c0_1) (h : impl_PairsFrom.f l0_0 l0_1 a1 a2 a3 = some r) :
  Calls Try.prog 48 #[.agg #[.slice A0_0 l0_0.length c0_0, .slice A0_1 l0_1.length c0_1], .int .i64 a1, .string a2, .string a3] w fun e w' => ∃ v0_ : Value, e = .returned v0_ ∧ Kd.R k140 140 w' w.heap.size (fun _ => True) v0_ r ∧ Below w.heap.size w w' := by
 obtain ⟨rn, h1, h2⟩ := Option.map_eq_some_iff.1 h
 have hlen := tof_len (rnOf_some h1).1.len a1
 obtain ⟨⟨ps, ok⟩, hps⟩ : ∃ z, prOf (tof rn a1) = z := ⟨_, rfl⟩
 rw [hps] at h2 hlen
 have hi : impl_AllPairs.f l0_0 l0_1 a1 = some (ps, ok) := by unfold impl_AllPairs.f; rw [h1, ← hps]; rfl
 have HI := Aside0.mk hi
 have HP := Aside0.mk hr0_0
 have HL := Aside0.mk hr0_1
 have HR := Aside0.mk h2
 have HN := Aside0.mk hlen
 clear hi h h1 h2 hps hlen hr0_0 hr0_1
 go_enter Try.func48, Try.ntmps48
 go_wp2_with fail
 have hbe := Aside0.mk (below_alloc (below_alloc (below_alloc (Below.refl w.heap.size w) (.cells #[.slice A0_0 l0_0.length c0_0, .slice A0_1 l0_1.length c0_1] 41)) (.cells #[.string a2] 9)) (.cells #[.string a3] 9))
 ((with_reducible refine (impl_AllPairs.calls A0_0 c0_0 l0_0 A0_1 c0_1 l0_1 a1 ps ok _ (Kd.C_below HP.out hbe.out) hc0_0 (Kd.C_below HL.out hbe.out) hc0_1 HI.out).mono ?_); rintro e w1 ⟨v0, rfl, ho, hb⟩)
 have B2 : Aside0 (w1.heap[w.heap.size + 1 + 1]? = some (.cells #[.string a3] 9 (0, 0))) := ⟨by have := blk_below (blk_new ((w.alloc (.cells #[.slice A0_0 l0_0.length c0_0, .slice A0_1 l0_1.length c0_1] 41)).alloc (.cells #[.string a2] 9)) (.cells #[.string a3] 9)) hb; rwa [show ((w.alloc (.cells #[.slice A0_0 l0_0.length c0_0, .slice A0_1 l0_1.length c0_1] 41)).alloc (.cells #[.string a2] 9)).heap.size = w.heap.size + 1 + 1 from by simp] at this⟩
 have B1 : Aside0 (w1.heap[w.heap.size + 1]? = some (.cells #[.string a2] 9 (0, 0))) := ⟨by have := blk_below (blk_alloc (blk_new (w.alloc (.cells #[.slice A0_0 l0_0.length c0_0, .slice A0_1 l0_1.length c0_1] 41)) (.cells #[.string a2] 9)) (.cells #[.string a3] 9)) hb; rwa [show (w.alloc (.cells #[.slice A0_0 l0_0.length c0_0, .slice A0_1 l0_1.length c0_1] 41)).heap.size = w.heap.size + 1 from by simp] at this⟩
 have HB := Aside0.mk (below_step hbe.out hb)
 obtain ⟨A, c, rfl⟩ := Kd.R_slice ho
 have RO := Aside0.mk (Kd.R_lower ho hbe.out.size)
 clear ho hb hbe HI HP HL
 have HD := Aside0.mk (DeleteFunc_pair 110 (outK a2 a3) #[.pointer (some ⟨w.heap.size + 1, 0, none⟩), .pointer (some ⟨w.heap.size + 1 + 1, 0, none⟩)] (TwoTexts (w.heap.size + 1) (w.heap.size + 1 + 1) a2 a3) enters110 (fun W x hW => pred110 a2 a3 _ _ W x hW)
  (fun W W' hW hb => ⟨blk_below hW.1 hb, blk_below hW.2 hb⟩) (fun W W' g hW hg hgr => by
   obtain ⟨cells, hg⟩ := hg
   exact ⟨blk_grown hW.1 hgr (fun e => by injection e with e; exact blk_ne hW.1 hg (by decide) e), blk_grown hW.2 hgr (fun e => by injection e with e; exact blk_ne hW.2 hg (by decide) e)⟩) A c ps w.heap.size w1 RO.out ⟨B1.out, B2.out⟩ (by have := HN.out; omega))
 go_wp2_with fail
 ((with_reducible refine HD.out.mono ?_); rintro e w2 ⟨A2, c2, rfl, ho, hg⟩)
 go_wp2
 go_ret
 exact ⟨_, rfl, by rw [← HR.out]; exact ho, HB.out.grown hg HB.out.size (fun k hk => Kd.R_base RO.out k hk)⟩
theorem spec_PairsFrom.calls (A0_0 : Option Addr) (c0_0 : Nat) (l0_0 : List ByteArray) (A0_1 : Option Addr) (c0_1 : Nat) (l0_1 : List S189) (a1 : Int) (a2 a3 : ByteArray) (r : List S140) (w : World) (hr0_0 : Kd.C Kd.string w A0_0 l0_0.length l0_0) (hc0_0 : l0_0.length ≤ c0_0) (hr0_1 : Kd.C k189 w A0_1 l0_1.length l0_1) (hc0_1 : l0_1.length ≤ c0_1) (h : spec_PairsFrom.f l0_0 l0_1 a1 a2 a3 = some r) :
  Calls Try.prog 47 #[.agg #[.slice A0_0 l0_0.length c0_0, .slice A0_1 l0_1.length c0_1], .int .i64 a1, .string a2, .string a3] w fun e w' => ∃ v0_ : Value, e = .returned v0_ ∧ Kd.R k140 140 w' w.heap.size (fun _ => True) v0_ r ∧ Below w.heap.size w w' := by
 obtain ⟨rn, h1, h2⟩ := Option.map_eq_some_iff.1 h
 have hlen := look_len (rnOf_some h1).2.len a1
 obtain ⟨⟨ps, ok⟩, hps⟩ : ∃ z, prOf (look rn a1) = z := ⟨_, rfl⟩
 rw [hps] at h2 hlen
 have hi : spec_AllPairs.f l0_0 l0_1 a1 = some (ps, ok) := by unfold spec_AllPairs.f; rw [h1, ← hps]; rfl
 have HI := Aside0.mk hi
 have HP := Aside0.mk hr0_0
 have HL := Aside0.mk hr0_1
 have HR := Aside0.mk h2
 have HN : Aside0 (ps.length ≤ 349524) := ⟨hlen⟩
 clear hi h h1 h2 hps hlen hr0_0 hr0_1
 go_enter Try.func47, Try.ntmps47
 go_wp2_with fail
 have hbe := Aside0.mk (below_alloc (Below.refl w.heap.size w) (.cells #[.slice A0_0 l0_0.length c0_0, .slice A0_1 l0_1.length c0_1] 41))
 ((with_reducible refine (spec_AllPairs.calls A0_0 c0_0 l0_0 A0_1 c0_1 l0_1 a1 ps ok _ (Kd.C_below HP.out hbe.out) hc0_0 (Kd.C_below HL.out hbe.out) hc0_1 HI.out).mono ?_); rintro e w1 ⟨v0, rfl, ho, hb⟩)
 have HB := Aside0.mk (below_step hbe.out hb)
 obtain ⟨A, c, rfl⟩ := Kd.R_slice ho
 have RO := Aside0.mk (Kd.R_mono (ok' := fun k => k < w1.heap.size) (Kd.R_bound (Kd.R_lower ho hbe.out.size)) (fun k hk => hk.2.2.1))
 clear ho hb hbe HI HP HL
 go_wp2
 go_loopg [11, 12] ps.length (fun gg s11 s12 wr => ∃ (j : Nat) (B : Option Addr) (d : Nat), j ≤ ps.length ∧ ps.length - j ≤ gg ∧ s11 = .slice B ((ps.take j).filter (np (outK a2 a3))).length d ∧ s12 = .int .i64 j ∧ Aside0 (Kd.R k140 140 wr w.heap.size (fun k => w1.heap.size ≤ k) (.slice B ((ps.take j).filter (np (outK a2 a3))).length d) ((ps.take j).filter (np (outK a2 a3)))) ∧ Aside0 (Kd.R k140 140 wr w.heap.size (fun k => k < w1.heap.size) (.slice A ps.length c) ps) ∧ Aside0 (Below w.heap.size w wr) ∧ Aside0 (w1.heap.size ≤ wr.heap.size))
 case atStart => exact ⟨0, some ⟨w1.heap.size, 0, none⟩, 0, Nat.zero_le _, by omega, rfl, rfl, ⟨by
   have h := Kd.R_lower (pr_empty w1 w1.heap.size (Nat.le_refl _)) HB.out.size
   exact Kd.R_mono (Kd.R_tight (by rfl) h) (fun k hk => by simp [Value.ownBlock] at hk; show w1.heap.size ≤ k; omega)⟩, ⟨Kd.R_alloc RO.out _⟩, ⟨below_alloc HB.out _⟩, ⟨by simp⟩⟩
 case round =>
  clear RO HB
  obtain ⟨j, B, d, hj, hg, rfl, rfl, RB, RA, HB, HS⟩ := hrel
  by_cases hlt : j < ps.length
  ·have hltz : (j : Int) < (ps.length : Int) := by omega
   obtain ⟨ad, rfl, hc0, hc1⟩ := at_T140 (R_seen RA.out).2 (j : Int) (by omega) hltz
   rw [rd_T140_nat _ _ hlt, Int.toNat_natCast] at hc0 hc1
   obtain ⟨x, hx⟩ : ∃ x, ps[j] = x := ⟨_, rfl⟩
   rw [hx] at hc0 hc1
   have HX := Aside0.mk hx
   have hft := filter_take_succ (np (outK a2 a3)) ps j hlt
   rw [hx] at hft
   clear hx
   have hw : wrap64 ((j : Int) + 1) = ((j + 1 : Nat) : Int) := by have := HN.out; unfold wrap64; omega
   have HW := Aside0.mk hw
   clear hw
   have hfl : Aside0 (((ps.take j).filter (np (outK a2 a3))).length ≤ j) := ⟨Nat.le_trans (List.length_filter_le _ _) (by rw [List.length_take]; omega)⟩
   have HFT := Aside0.mk hft
   clear hft
   obtain ⟨fs, hfs⟩ : ∃ fs, (ps.take j).filter (np (outK a2 a3)) = fs := ⟨_, rfl⟩
   rw [hfs] at HFT hfl RB ⊢
   clear hfs
   cases h1 : Op.bytesLess x.f0.toList a2.toList with
   | true =>
    have HO : Aside0 (np (outK a2 a3) x = false) := ⟨by simp [np, outK, h1]⟩
    rw [if_neg (by rw [HO.out]; simp), List.append_nil] at HFT
    go_wp2
    repeat (go_quiet (fail); try go_wp2)
    go_roundg (ps.length - (j + 1))
    case measure => omega
    case rel =>
     exact ⟨j + 1, B, d, by omega, by omega, by rw [HFT.out], by first | rfl | exact congrArg (Value.int .i64) HW.out, ⟨by rw [HFT.out]; exact RB.out⟩, RA, HB, HS⟩
   | false =>
    cases h2 : Op.bytesLess x.f0.toList a3.toList with
    | false =>
     have HO : Aside0 (np (outK a2 a3) x = false) := ⟨by simp [np, outK, h1, h2]⟩
     rw [if_neg (by rw [HO.out]; simp), List.append_nil] at HFT
     go_wp2
     repeat (go_quiet (fail); try go_wp2)
     go_roundg (ps.length - (j + 1))
     case measure => omega
     case rel =>
      exact ⟨j + 1, B, d, by omega, by omega, by rw [HFT.out], by first | rfl | exact congrArg (Value.int .i64) HW.out, ⟨by rw [HFT.out]; exact RB.out⟩, RA, HB, HS⟩
    | true =>
     have HO : Aside0 (np (outK a2 a3) x = true) := ⟨by simp [np, outK, h1, h2]⟩
     rw [if_pos HO.out] at HFT
     obtain ⟨fs2, hfs2⟩ : ∃ z, z = fs ++ [x] := ⟨_, rfl⟩
     have HF2 := Aside0.mk hfs2
     rw [← hfs2] at HFT
     clear hfs2
     go_wp2_with (((with_reducible refine gate_builtin (b := .append) (xs := #[.tmp 42, .tmp 47]) rfl ?_); at_builtin; refine Kd.R_append k140 (w0 := w) w.heap.size rfl (.tmp 42) (.tmp 47) 80 140 (.agg #[.string ⟨#[]⟩, .string ⟨#[]⟩]) 32 rfl Try.underlying80 info140d rfl (by decide) (by omega) (.slice B fs.length d) fs (⟨x.f0, x.f1⟩ : S140) [.string x.f0, .string x.f1] (fun k => w1.heap.size ≤ k) (fun _ => False) rfl rfl (k140_mkM _ _ _ _) (fun _ hk => hk.elim) ?aF ?aO ?aB ?aS ?aL ?_; (case aF => exact (fun k hk => Nat.le_trans HS.out hk)); (case aO => exact RB.out); (case aB => exact HB.out); (case aS => exact HB.out.size); (case aL => have := hfl.out; have := HN.out; omega); intro va wa ho hb hgr hat; rw [← HF2.out] at ho; obtain ⟨Ao, co, eo⟩ := Kd.R_slice ho; subst eo; have RA2 := Aside0.mk (Kd.R_grown RA.out hgr (fun k hk e => by have h3 := RB.out.1 k e.symm; have h4 : k < w1.heap.size := hk; omega)); have RB2 := Aside0.mk ho; have HB2 := Aside0.mk hb; have HS2 := Aside0.mk (Nat.le_trans HS.out hgr.size); clear ho hb hgr hat))
     go_roundg (ps.length - (j + 1))
     case measure => omega
     case rel => exact ⟨j + 1, Ao, co, by omega, by omega, by rw [HFT.out], by first | rfl | exact congrArg (Value.int .i64) HW.out, ⟨by rw [HFT.out]; exact RB2.out⟩, RA2, HB2, HS2⟩
  ·obtain rfl : j = ps.length := by omega
   have hltz : ¬ ((ps.length : Nat) : Int) < (ps.length : Int) := by omega
   rw [List.take_length] at RB ⊢
   go_wp2
   go_ret
   exact ⟨_, rfl, by rw [← HR.out]; exact Kd.R_mono RB.out (fun _ _ => trivial), HB.out⟩
def laws_FnExactPairsFrom.T14 : Bool × List (List Nat × List Nat) := (true, [([], []), ([], []), ([1], [1]), ([0, 2, 2], [0, 2]), ([3], [3])])
def laws_FnExactPairsFrom.B14 : List Nat := [0, 0, 2, 7, 15]
theorem laws_FnExactPairsFrom.ok14_1 : regB (opsOf Try.f8 14) laws_FnExactPairsFrom.T14 laws_FnExactPairsFrom.B14 [] [.t 0, .t 1, .e 2, .e 3, .p 4] = true := by kernel_rfl
theorem FnExactPairsFrom_long_a2 (A0 : Option Addr) (c0 n0 : Nat) (A1 : Option Addr) (c1 n1 : Nat) (a1 : Int) (a2 : ByteArray) (a3 : ByteArray) (w : World)  (hs : 1048576 < a2.size) :
  Calls Try.prog 8 #[.agg #[.slice A0 n0 c0, .slice A1 n1 c1], .int .i64 a1, .string a2, .string a3] w fun e w' => e = .returned (.bool true) ∧ Below w.heap.size w w' := by
 have hs2 : decide ((1048576 : Int) < (a2.size : Int)) = true := decide_eq_true (by omega)
 go_enter Try.func8, Try.ntmps8
 go_wp2
 go_ret
 exact ⟨rfl, below_alloc (Below.refl _ _) _⟩
theorem FnExactPairsFrom_long_a3 (A0 : Option Addr) (c0 n0 : Nat) (A1 : Option Addr) (c1 n1 : Nat) (a1 : Int) (a2 : ByteArray) (a3 : ByteArray) (w : World) (hsa2 : a2.size ≤ 1048576) (hs : 1048576 < a3.size) :
  Calls Try.prog 8 #[.agg #[.slice A0 n0 c0, .slice A1 n1 c1], .int .i64 a1, .string a2, .string a3] w fun e w' => e = .returned (.bool true) ∧ Below w.heap.size w w' := by
 have hs2 : decide ((1048576 : Int) < (a3.size : Int)) = true := decide_eq_true (by omega)
 go_enter Try.func8, Try.ntmps8
 go_wp2
 go_ret
 exact ⟨rfl, below_alloc (Below.refl _ _) _⟩
theorem FnExactPairsFrom_small (k : Nat) (A0 : Option Addr) (c0 : Nat) (pages : List ByteArray) (A1 : Option Addr) (c1 : Nat) (late0 : List S187) (a1 : Int) (a2 : ByteArray) (a3 : ByteArray) (r : Int) (w : World)
  (hp : Kd.C Kd.string w A0 pages.length pages) (hc0 : pages.length ≤ c0) (hl : Kd.C k187 w A1 late0.length late0) (hc1 : late0.length ≤ c1) (hsz : laws_szDisk.f k pages late0 1048576 = some r) (hr : r < 0) (hsa2 : a2.size ≤ 1048576) (hsa3 : a3.size ≤ 1048576) :
  Calls Try.prog 8 #[.agg #[.slice A0 pages.length c0, .slice A1 late0.length c1], .int .i64 a1, .string a2, .string a3] w fun e w' => e = .returned (.bool true) ∧ Below w.heap.size w w' := by
 have HP := Aside0.mk hp
 have HL := Aside0.mk hl
 have HSZ := Aside0.mk hsz
 have hr : decide (r < 0) = true := decide_eq_true hr
 clear hp hl hsz
 go_enter Try.func8, Try.ntmps8
 go_wp2_with fail
 ((with_reducible refine (laws_szDisk.calls k A0 c0 pages A1 c1 late0 1048576 r _ (Kd.C_below HP.out (below_alloc (Below.refl _ _) _)) hc0 (Kd.C_below HL.out (below_alloc (Below.refl _ _) _)) hc1 HSZ.out).mono ?_); rintro e w1 ⟨rfl, hb⟩)
 have HB := Aside0.mk (below_step (below_alloc (Below.refl w.heap.size w) (.cells #[.slice A0 pages.length c0, .slice A1 late0.length c1] 25)) hb)
 clear hb
 go_wp2
 go_ret
 exact ⟨rfl, HB.out⟩
theorem FnExactPairsFrom_walk (k : Nat) (A0 : Option Addr) (c0 : Nat) (pages : List ByteArray) (A1 : Option Addr) (c1 : Nat) (late0 : List S187) (a1 : Int) (a2 : ByteArray) (a3 : ByteArray) (late : List S189) (r : Int) (ps : List S140)  (mk : Int) (mp : List ByteArray) (ml : List S189) (mq : Int) (ms : List S140) (w : World)
  (hp : Kd.C Kd.string w A0 pages.length pages) (hc0 : pages.length ≤ c0) (hl : Kd.C k187 w A1 late0.length late0) (hc1 : late0.length ≤ c1)
  (hsz : laws_szDisk.f k pages late0 1048576 = some r) (hr : ¬ r < 0) (hto : laws_toDisk.f k pages late0 = some (pages, late)) (hsp : spec_PairsFrom.f pages late a1 a2 a3 = some ps) (him : impl_PairsFrom.f pages late a1 a2 a3 = some ps)
  (heq : laws_eqPairS.f k ps ps = some true) (hed : laws_eqDisk.f k pages late pages late = some true) (hmd : laws_markDisk.f k pages late 1 = some (mk, mp, ml)) (hmk : ¬ mk < 0) (hmp : laws_markPairS.f k ps 1 = some (mq, ms)) (hml : ms.length = ps.length) (hhd : laws_heldPairS.f k ms 1 = some mq) (hmq : ¬ mq < 0) (hsa2 : a2.size ≤ 1048576) (hsa3 : a3.size ≤ 1048576) :
  Calls Try.prog 8 #[.agg #[.slice A0 pages.length c0, .slice A1 late0.length c1], .int .i64 a1, .string a2, .string a3] w fun e w' => e = .returned (.bool true) ∧ Below w.heap.size w w' := by
 have HP := Aside0.mk hp
 have HL := Aside0.mk hl
 have HSZ := Aside0.mk hsz
 have HTO := Aside0.mk hto
 have HSP := Aside0.mk hsp
 have HIM := Aside0.mk him
 have HEQ := Aside0.mk heq
 have HED := Aside0.mk hed
 have HMD := Aside0.mk hmd
 have HMK := Aside0.mk hmk
 have HMP := Aside0.mk hmp
 have HML := Aside0.mk hml
 have HHD := Aside0.mk hhd
 have HMQ := Aside0.mk hmq
 have hr : decide (r < 0) = false := decide_eq_false hr
 clear hp hl hsz hto hsp him heq hed hmd hmk hmp hml hhd hmq
 go_enter Try.func8, Try.ntmps8
 go_wp2_with fail
 ((with_reducible refine (laws_szDisk.calls k A0 c0 pages A1 c1 late0 1048576 r _ (Kd.C_below HP.out (below_alloc (Below.refl _ _) _)) hc0 (Kd.C_below HL.out (below_alloc (Below.refl _ _) _)) hc1 HSZ.out).mono ?_); rintro e w1 ⟨rfl, hb⟩)
 have HB := Aside0.mk (below_step (below_alloc (Below.refl w.heap.size w) (.cells #[.slice A0 pages.length c0, .slice A1 late0.length c1] 25)) hb)
 have BX := Aside0.mk (blk_below (blk_new w (.cells #[.slice A0 pages.length c0, .slice A1 late0.length c1] 25)) hb)
 clear hb
 have hx0 : w1.cell? ⟨w.heap.size, 0, none⟩ = some (.slice A0 pages.length c0) := (blk_cell BX.out 0).trans rfl
 have hx1 : w1.cell? ⟨w.heap.size, 1, none⟩ = some (.slice A1 late0.length c1) := (blk_cell BX.out 1).trans rfl
 go_wp2_with fail
 ((with_reducible refine (laws_toDisk.calls k A0 c0 pages A1 c1 late0 pages late _ (Kd.C_below HP.out HB.out) hc0 (Kd.C_below HL.out HB.out) hc1 HTO.out).mono ?_); rintro e w2 ⟨v0, v1, rfl, ho0, ho1, hb⟩)
 replace HB := Aside0.mk (below_step HB.out (hb))
 replace BX := Aside0.mk (blk_below BX.out (hb))
 clear hb
 obtain ⟨X0, d0, rfl⟩ := Kd.R_slice ho0
 obtain ⟨X1, d1, rfl⟩ := Kd.R_slice ho1
 have RA := Aside0.mk (R_seen ho0)
 have RB := Aside0.mk (R_seen ho1)
 clear hx0 hx1 ho0 ho1
 go_wp2_with fail
 have HB2 := Aside0.mk HB.out.size
 ((with_reducible refine (spec_PairsFrom.calls X0 d0 pages X1 d1 late a1 a2 a3 ps  _ RA.out.2 RA.out.1 RB.out.2 RB.out.1 HSP.out).mono ?_); rintro e w3 ⟨vw, rfl, how, hb⟩)
 replace HB := Aside0.mk (below_step HB.out (hb))
 replace BX := Aside0.mk (blk_below BX.out (hb))
 clear hb
 clear RA RB
 obtain ⟨AW, cW, rfl⟩ := Kd.R_slice how
 have RW := Aside0.mk (Kd.R_mono (ok' := fun k => k < w3.heap.size) (Kd.R_bound (Kd.R_lower how (show w.heap.size ≤ w2.heap.size from HB2.out))) (fun k hk => hk.2.2.1))
 clear how HB2
 have L3 := Aside0.mk (blk_lt BX.out)
 have hx0 : w3.cell? ⟨w.heap.size, 0, none⟩ = some (.slice A0 pages.length c0) := (blk_cell BX.out 0).trans rfl
 have hx1 : w3.cell? ⟨w.heap.size, 1, none⟩ = some (.slice A1 late0.length c1) := (blk_cell BX.out 1).trans rfl
 go_wp2_with fail
 ((with_reducible refine (laws_toDisk.calls k A0 c0 pages A1 c1 late0 pages late _ (Kd.C_below HP.out HB.out) hc0 (Kd.C_below HL.out HB.out) hc1 HTO.out).mono ?_); rintro e w4 ⟨v2, v3, rfl, ho2, ho3, hb⟩)
 have L34 := Aside0.mk hb.size
 replace HB := Aside0.mk (below_step HB.out (hb))
 replace BX := Aside0.mk (blk_below BX.out (hb))
 replace RW := Aside0.mk (Kd.R_below RW.out (hb))
 clear hb
 obtain ⟨X2, d2, rfl⟩ := Kd.R_slice ho2
 obtain ⟨X3, d3, rfl⟩ := Kd.R_slice ho3
 have RA := Aside0.mk (R_seen ho2)
 have RB := Aside0.mk (R_seen ho3)
 have RX := Aside0.mk (Kd.R_mono (ok' := fun k => w3.heap.size ≤ k ∧ k < w4.heap.size) (Kd.R_bound ho2) (fun k hk => ⟨hk.2.1, hk.2.2.1⟩))
 have RY := Aside0.mk (Kd.R_mono (ok' := fun k => w3.heap.size ≤ k ∧ k < w4.heap.size) (Kd.R_bound ho3) (fun k hk => ⟨hk.2.1, hk.2.2.1⟩))
 replace RX := Aside0.mk (Kd.R_lower RX.out (show w.heap.size ≤ w3.heap.size from Nat.le_of_lt L3.out))
 replace RY := Aside0.mk (Kd.R_lower RY.out (show w.heap.size ≤ w3.heap.size from Nat.le_of_lt L3.out))
 clear hx0 hx1 ho2 ho3
 go_wp2_with fail
 ((with_reducible refine (impl_PairsFrom.calls X2 d2 pages X3 d3 late a1 a2 a3 ps  _ (Kd.C_below RA.out.2 (below_alloc (Below.refl _ _) _)) RA.out.1 (Kd.C_below RB.out.2 (below_alloc (Below.refl _ _) _)) RB.out.1 HIM.out).mono ?_); rintro e w5 ⟨vg, rfl, hog, hb⟩)
 have BY := Aside0.mk (blk_below (blk_new w4 (.cells #[.slice X2 pages.length d2, .slice X3 late.length d3] 41)) hb)
 have RG := Aside0.mk (Kd.R_mono (ok' := fun k => w4.heap.size < k) (Kd.R_bound hog) (fun k hk => by have := hk.2.1; simp at this; omega))
 replace RG := Aside0.mk (Kd.R_lower RG.out (show w.heap.size ≤ (w4.alloc (.cells #[.slice X2 pages.length d2, .slice X3 late.length d3] 41)).heap.size by have := L3.out; have := L34.out; simp; omega))
 replace hb := below_step (below_alloc (Below.refl w4.heap.size w4) (.cells #[.slice X2 pages.length d2, .slice X3 late.length d3] 41)) hb
 replace HB := Aside0.mk (below_step HB.out (hb))
 replace BX := Aside0.mk (blk_below BX.out (hb))
 replace RW := Aside0.mk (Kd.R_below RW.out (hb))
 replace RX := Aside0.mk (Kd.R_below RX.out (hb))
 replace RY := Aside0.mk (Kd.R_below RY.out (hb))
 clear hb RA RB
 obtain ⟨AG, cG, rfl⟩ := Kd.R_slice hog
 clear hog
 go_wp2_with fail
 ((with_reducible refine (laws_eqPairS.calls k AG cG ps AW cW ps true _ (R_seen RG.out).2 (R_seen RG.out).1 (R_seen RW.out).2 (R_seen RW.out).1 HEQ.out).mono ?_); rintro e w6 ⟨rfl, hb⟩)
 replace HB := Aside0.mk (below_step HB.out (hb))
 replace BX := Aside0.mk (blk_below BX.out (hb))
 replace RW := Aside0.mk (Kd.R_below RW.out (hb))
 replace RX := Aside0.mk (Kd.R_below RX.out (hb))
 replace RY := Aside0.mk (Kd.R_below RY.out (hb))
 replace BY := Aside0.mk (blk_below BY.out (hb))
 replace RG := Aside0.mk (Kd.R_below RG.out (hb))
 clear hb
 go_upto_region 14 with (fail)
 replace HB := Aside0.mk (below_step HB.out ((Below.refl _ _).drew))
 replace BX := Aside0.mk (blk_below BX.out ((Below.refl _ _).drew))
 replace RW := Aside0.mk (Kd.R_below RW.out ((Below.refl _ _).drew))
 replace RX := Aside0.mk (Kd.R_below RX.out ((Below.refl _ _).drew))
 replace RY := Aside0.mk (Kd.R_below RY.out ((Below.refl _ _).drew))
 replace BY := Aside0.mk (blk_below BY.out ((Below.refl _ _).drew))
 replace RG := Aside0.mk (Kd.R_below RG.out ((Below.refl _ _).drew))
 refine seq_start laws_FnExactPairsFrom.ok14_1 (S := fun w' => w'.cell? ⟨w.heap.size, 0, none⟩ = some (.slice A0 pages.length c0) ∧ w'.cell? ⟨w.heap.size, 1, none⟩ = some (.slice A1 late0.length c1) ∧ w'.cell? ⟨w4.heap.size, 0, none⟩ = some (.slice X2 pages.length d2) ∧ w'.cell? ⟨w4.heap.size, 1, none⟩ = some (.slice X3 late.length d3)) (by kernel_rfl) (fun _ _ _ _ h => h) ⟨(blk_cell BX.out 0).trans rfl, (blk_cell BX.out 1).trans rfl, (blk_cell BY.out 0).trans rfl, (blk_cell BY.out 1).trans rfl⟩ (fun hHeld => ?_)
 generalize w6.drew = wd at HB BX RW RX RY BY RG hHeld ⊢
 iterate 2 (refine seq_t (v := ?_) (a' := ?_) rfl rfl (Or.inl ⟨by rfl, ?_⟩) ?_ ?_; rotate_left; (· rintro w' ⟨s0, s1, s2, s3⟩; go_simp; with_reducible rfl); rotate_left; (· show Act.put _ (some _) _ = _; simp only [Act.put, List.setIfInBounds_toArray, List.set_cons_zero, List.set_cons_succ, i64_w, i32_w]; try rfl))
 refine seq_call rfl rfl Try.func38 (by kernel_rfl) rfl #[.agg #[.slice A0 pages.length c0, .slice A1 late0.length c1]] (by rfl) rfl (by (try simp only [List.map_toArray, List.map_cons, List.map_nil]); first | done | rfl) ?_
 with_reducible refine (laws_toDisk.calls k A0 c0 pages A1 c1 late0 pages late _ (Kd.C_below HP.out HB.out) hc0 (Kd.C_below HL.out HB.out) hc1 HTO.out).mono ?_
 rintro e w7 ⟨v4, v5, rfl, ho4, ho5, hb⟩
 replace HB := Aside0.mk (below_step HB.out (hb))
 replace BX := Aside0.mk (blk_below BX.out (hb))
 replace RW := Aside0.mk (Kd.R_below RW.out (hb))
 replace RX := Aside0.mk (Kd.R_below RX.out (hb))
 replace RY := Aside0.mk (Kd.R_below RY.out (hb))
 replace BY := Aside0.mk (blk_below BY.out (hb))
 replace RG := Aside0.mk (Kd.R_below RG.out (hb))
 clear hb
 obtain ⟨X4, d4, rfl⟩ := Kd.R_slice ho4
 obtain ⟨X5, d5, rfl⟩ := Kd.R_slice ho5
 refine ⟨_, rfl, ⟨(blk_cell BX.out 0).trans rfl, (blk_cell BX.out 1).trans rfl, (blk_cell BY.out 0).trans rfl, (blk_cell BY.out 1).trans rfl⟩, (fun hHeld => ?_)⟩
 refine seq_norm (a' := ?_) ?_ ?_; rotate_left; (· show Act.put _ (some 47) _ = _; simp only [Act.put, List.setIfInBounds_toArray, List.set_cons_zero, List.set_cons_succ, i64_w, i32_w]; try rfl)
 refine seq_call rfl rfl Try.func40 (by kernel_rfl) rfl #[.agg #[.slice X2 pages.length d2, .slice X3 late.length d3], .agg #[.slice X4 pages.length d4, .slice X5 late.length d5]] (by rfl) rfl (by (try simp only [List.map_toArray, List.map_cons, List.map_nil]); first | done | rfl) ?_
 with_reducible refine (laws_eqDisk.calls k X2 d2 pages X3 d3 late X4 d4 pages X5 d5 late true _ (R_seen RX.out).2 (R_seen RX.out).1 (R_seen RY.out).2 (R_seen RY.out).1 (R_seen ho4).2 (R_seen ho4).1 (R_seen ho5).2 (R_seen ho5).1 HED.out).mono ?_
 rintro e w8 ⟨rfl, hb⟩
 replace HB := Aside0.mk (below_step HB.out (hb))
 replace BX := Aside0.mk (blk_below BX.out (hb))
 replace RW := Aside0.mk (Kd.R_below RW.out (hb))
 replace RX := Aside0.mk (Kd.R_below RX.out (hb))
 replace RY := Aside0.mk (Kd.R_below RY.out (hb))
 replace BY := Aside0.mk (blk_below BY.out (hb))
 replace RG := Aside0.mk (Kd.R_below RG.out (hb))
 clear hb ho4 ho5
 refine ⟨_, rfl, ⟨(blk_cell BX.out 0).trans rfl, (blk_cell BX.out 1).trans rfl, (blk_cell BY.out 0).trans rfl, (blk_cell BY.out 1).trans rfl⟩, (fun hHeld => ?_)⟩
 refine seq_norm (a' := ?_) ?_ ?_; rotate_left; (· show Act.put _ (some 48) _ = _; simp only [Act.put, List.setIfInBounds_toArray, List.set_cons_zero, List.set_cons_succ, i64_w, i32_w]; try rfl)
 (refine seq_p (v := ?_) (a' := ?_) rfl rfl (Or.inl ⟨by rfl, ?_⟩) ?_ ?_; rotate_left; (· intro w'; go_simp; with_reducible rfl); rotate_left; (· show Act.put _ (some _) _ = _; simp only [Act.put, List.setIfInBounds_toArray, List.set_cons_zero, List.set_cons_succ, i64_w, i32_w]; try rfl))
 refine seq_done ?_
 clear hHeld
 have hy0 : w8.cell? ⟨w4.heap.size, 0, none⟩ = some (.slice X2 pages.length d2) := (blk_cell BY.out 0).trans rfl
 have hy1 : w8.cell? ⟨w4.heap.size, 1, none⟩ = some (.slice X3 late.length d3) := (blk_cell BY.out 1).trans rfl
 go_wp2_with fail
 ((with_reducible refine (laws_markDisk.calls k _ _ pages _ _ late 1 mk mp ml w _ HB.out RX.out RY.out HMD.out).mono ?_); rintro e w9 ⟨rfl, hx0, hx1, hB, hK⟩)
 clear hx0 hx1 hy0 hy1 RX RY
 replace HB := Aside0.mk hB
 replace BX := Aside0.mk (blk_kept BX.out hK (fun h => by have := L3.out; rcases h with ⟨h1, h2⟩ | ⟨h1, h2⟩ <;> omega))
 replace RW := Aside0.mk (Kd.R_kept RW.out hK (fun k hk h => by have hk2 : k < w3.heap.size := hk; rcases h with ⟨h1, h2⟩ | ⟨h1, h2⟩ <;> omega))
 replace BY := Aside0.mk (blk_kept BY.out hK (fun h => by rcases h with ⟨h1, h2⟩ | ⟨h1, h2⟩ <;> omega))
 replace RG := Aside0.mk (Kd.R_kept RG.out hK (fun k hk h => by have hk2 : w4.heap.size < k := hk; rcases h with ⟨h1, h2⟩ | ⟨h1, h2⟩ <;> omega))
 clear hB hK
 have hmk : decide (mk < 0) = false := decide_eq_false (by have := HMK.out; omega)
 go_wp2_with fail
 ((with_reducible refine (laws_eqPairS.calls k AG cG ps AW cW ps true _ (R_seen RG.out).2 (R_seen RG.out).1 (R_seen RW.out).2 (R_seen RW.out).1 HEQ.out).mono ?_); rintro e w10 ⟨rfl, hb⟩)
 replace HB := Aside0.mk (below_step HB.out (hb))
 replace BX := Aside0.mk (blk_below BX.out (hb))
 replace RW := Aside0.mk (Kd.R_below RW.out (hb))
 replace BY := Aside0.mk (blk_below BY.out (hb))
 replace RG := Aside0.mk (Kd.R_below RG.out (hb))
 clear hb
 clear hmk
 go_wp2_with fail
 ((with_reducible refine (laws_markPairS.calls k _ _ ps 1 mq ms w _ HB.out RG.out HMP.out).mono ?_); rintro e w11 ⟨rfl, hg, hB, hK⟩)
 clear RG
 replace HB := Aside0.mk hB
 replace BX := Aside0.mk (blk_kept BX.out hK (fun h => by have := L3.out; have := L34.out; have h2 : w4.heap.size < w.heap.size := h; omega))
 replace RW := Aside0.mk (Kd.R_kept RW.out hK (fun k hk h => by have hk2 : k < w3.heap.size := hk; have h2 : w4.heap.size < k := h; have := L34.out; omega))
 replace BY := Aside0.mk (blk_kept BY.out hK (fun h => by have h2 : w4.heap.size < w4.heap.size := h; omega))
 have RG := Aside0.mk hg
 clear hg hB hK
 go_wp2_with fail
 ((with_reducible refine (held_n HML.out (laws_heldPairS.calls k AG cG ms 1 mq _ (R_seen (by rw [HML.out]; exact RG.out)).2 (R_seen (by rw [HML.out]; exact RG.out)).1 HHD.out)).mono ?_); rintro e w12 ⟨rfl, hb⟩)
 replace HB := Aside0.mk (below_step HB.out (hb))
 replace BX := Aside0.mk (blk_below BX.out (hb))
 replace RW := Aside0.mk (Kd.R_below RW.out (hb))
 replace BY := Aside0.mk (blk_below BY.out (hb))
 replace RG := Aside0.mk (Kd.R_below RG.out (hb))
 clear hb
 have hmq : decide (mq < 0) = false := decide_eq_false (by have := HMQ.out; omega)
 have hx0 : w12.cell? ⟨w.heap.size, 0, none⟩ = some (.slice A0 pages.length c0) := (blk_cell BX.out 0).trans rfl
 have hx1 : w12.cell? ⟨w.heap.size, 1, none⟩ = some (.slice A1 late0.length c1) := (blk_cell BX.out 1).trans rfl
 go_wp2_with fail
 ((with_reducible refine (laws_toDisk.calls k A0 c0 pages A1 c1 late0 pages late _ (Kd.C_below HP.out HB.out) hc0 (Kd.C_below HL.out HB.out) hc1 HTO.out).mono ?_); rintro e w13 ⟨v6, v7, rfl, ho6, ho7, hb⟩)
 replace HB := Aside0.mk (below_step HB.out (hb))
 replace BX := Aside0.mk (blk_below BX.out (hb))
 replace RW := Aside0.mk (Kd.R_below RW.out (hb))
 replace BY := Aside0.mk (blk_below BY.out (hb))
 replace RG := Aside0.mk (Kd.R_below RG.out (hb))
 clear hb
 obtain ⟨X6, d6, rfl⟩ := Kd.R_slice ho6
 obtain ⟨X7, d7, rfl⟩ := Kd.R_slice ho7
 have RA := Aside0.mk (R_seen ho6)
 have RB := Aside0.mk (R_seen ho7)
 clear hx0 hx1 ho6 ho7
 go_wp2_with fail
 ((with_reducible refine (impl_PairsFrom.calls X6 d6 pages X7 d7 late a1 a2 a3 ps  _ RA.out.2 RA.out.1 RB.out.2 RB.out.1 HIM.out).mono ?_); rintro e w14 ⟨vh, rfl, hoh, hb⟩)
 replace HB := Aside0.mk (below_step HB.out (hb))
 replace BX := Aside0.mk (blk_below BX.out (hb))
 replace RW := Aside0.mk (Kd.R_below RW.out (hb))
 replace BY := Aside0.mk (blk_below BY.out (hb))
 replace RG := Aside0.mk (Kd.R_below RG.out (hb))
 clear hb
 clear RA RB
 obtain ⟨AH, cH, rfl⟩ := Kd.R_slice hoh
 have RH := Aside0.mk hoh
 clear hoh
 go_wp2_with fail
 ((with_reducible refine (laws_eqPairS.calls k AH cH ps AW cW ps true _ (R_seen RH.out).2 (R_seen RH.out).1 (R_seen RW.out).2 (R_seen RW.out).1 HEQ.out).mono ?_); rintro e w15 ⟨rfl, hb⟩)
 replace HB := Aside0.mk (below_step HB.out (hb))
 replace BX := Aside0.mk (blk_below BX.out (hb))
 replace RW := Aside0.mk (Kd.R_below RW.out (hb))
 replace BY := Aside0.mk (blk_below BY.out (hb))
 replace RG := Aside0.mk (Kd.R_below RG.out (hb))
 replace RH := Aside0.mk (Kd.R_below RH.out (hb))
 clear hb
 go_wp2_with fail
 ((with_reducible refine (held_n HML.out (laws_heldPairS.calls k AG cG ms 1 mq _ (R_seen (by rw [HML.out]; exact RG.out)).2 (R_seen (by rw [HML.out]; exact RG.out)).1 HHD.out)).mono ?_); rintro e w16 ⟨rfl, hb⟩)
 replace HB := Aside0.mk (below_step HB.out (hb))
 replace BX := Aside0.mk (blk_below BX.out (hb))
 replace RW := Aside0.mk (Kd.R_below RW.out (hb))
 replace BY := Aside0.mk (blk_below BY.out (hb))
 replace RG := Aside0.mk (Kd.R_below RG.out (hb))
 replace RH := Aside0.mk (Kd.R_below RH.out (hb))
 clear hb
 go_wp2
 go_ret
 exact ⟨rfl, HB.out⟩
theorem pairsFrom_law (pages : List ByteArray) (late : List S187) (root : Int) (a2 a3 : ByteArray) (h1 : ∀ s ∈ pages, s.size ≤ 9223372036854775807) (h2 : pages.length ≤ 9223372036854775807) (h3 : ∀ s ∈ late, s.f1.size ≤ 9223372036854775807) (h4 : late.length ≤ 9223372036854775807) (A0 : Option Addr) (c0 : Nat) (A1 : Option Addr) (c1 : Nat) (w : World)
  (hp : Kd.C Kd.string w A0 pages.length pages) (hc0 : pages.length ≤ c0) (hl : Kd.C k187 w A1 late.length late) (hc1 : late.length ≤ c1) :
  Calls Try.prog 8 #[.agg #[.slice A0 pages.length c0, .slice A1 late.length c1], .int .i64 root, .string a2, .string a3] w fun e w' => e = .returned (.bool true) ∧ Below w.heap.size w w' := by
 by_cases b2 : 1048576 < a2.size
 ·exact FnExactPairsFrom_long_a2 A0 c0 _ A1 c1 _ root a2 a3 w b2
 by_cases b3 : 1048576 < a3.size
 ·exact FnExactPairsFrom_long_a3 A0 c0 _ A1 c1 _ root a2 a3 w (by omega) b3
 obtain ⟨r, ⟨K0, er⟩, hr⟩ := szD_ev pages late h1 h2 h3 h4
 rcases hr with hr | ⟨hr, hs⟩
 ·exact FnExactPairsFrom_small K0 A0 c0 pages A1 c1 late root a2 a3 r w hp hc0 hl hc1 (er K0 (Nat.le_refl _)) hr (by omega) (by omega)
 ·obtain ⟨K1, hto⟩ := toD_ev pages late hs
  have hl2 : (late.map conv).length ≤ 1048576 := by rw [List.length_map]; exact hs.2.1
  obtain ⟨rn, hrn⟩ := rnOf_ex (rnB_ex pages (late.map conv) hs.1.1 hs.1.2 (fun s hx => by
   obtain ⟨y, hy, rfl⟩ := List.mem_map.1 hx
   exact hs.2.2 y hy) hl2)
  have hb := rnOf_some hrn
  obtain ⟨ps, hps⟩ : ∃ z, (prOf (tof rn root)).1.filter (np (outK a2 a3)) = z := ⟨_, rfl⟩
  have hlen : ps.length ≤ 1048576 := by have := tof_len hb.1.len root; have h5 := List.length_filter_le (np (outK a2 a3)) (prOf (tof rn root)).1; rw [hps] at h5; omega
  have hi : impl_PairsFrom.f pages (late.map conv) root a2 a3 = some ps := by unfold impl_PairsFrom.f; rw [hrn, ← hps]; rfl
  have hsp : spec_PairsFrom.f pages (late.map conv) root a2 a3 = some ps := by unfold spec_PairsFrom.f; rw [hrn, ← hps, pairs_same (rnB_good hb)]; rfl
  obtain ⟨K2, heq⟩ := eqPr_ev ps hlen
  obtain ⟨K3, hed⟩ := eqD_ev pages (late.map conv) hs.1.1 hl2
  obtain ⟨mk, mp, ml, ⟨K4, hmd⟩, hmk⟩ := mD_ev pages (late.map conv) hs.1.1 hl2
  obtain ⟨K5, hmp⟩ := mkP_ev ps hlen
  obtain ⟨K6, hhd⟩ := hdP_ev ps.length hlen
  obtain ⟨k, h0, h1, h2, h3, h4, h5, h6⟩ : ∃ k, K0 ≤ k ∧ K1 ≤ k ∧ K2 ≤ k ∧ K3 ≤ k ∧ K4 ≤ k ∧ K5 ≤ k ∧ K6 ≤ k := ⟨K0 + K1 + K2 + K3 + K4 + K5 + K6, by omega, by omega, by omega, by omega, by omega, by omega, by omega⟩
  exact FnExactPairsFrom_walk k A0 c0 pages A1 c1 late root a2 a3 (late.map conv) r ps mk mp ml _ (marks ps.length) w hp hc0 hl hc1 (er k h0) hr (hto k h1) hsp hi (heq k h2) (hed k h3) (hmd k h4) hmk (hmp k h5) (marks_len _) (hhd k h6) (by omega) (by omega) (by omega)
end Go.Proofs.Ytapholbdjccapaa.PFnExactTreeOk
namespace Go.Proofs.Ytapholbdjccapaa.Head
set_option maxRecDepth 100000
def w1 : List Char := [104, 97, 114, 110, 101, 115, 115].map Char.ofNat
def w2 : List Char := [97, 53, 100, 48, 51, 50, 48, 56, 102, 98, 52, 49, 98, 49, 48, 54, 97, 56, 100, 52, 97, 49, 101, 100, 97, 54, 57, 56, 56, 52, 99, 52, 54, 102, 102, 97, 102, 101, 56, 102, 102, 98, 53, 57, 98, 55, 101, 57, 50, 50, 99, 56, 57, 54, 52, 97, 53, 53, 53, 100, 55, 99, 49, 101].map Char.ofNat
def w3 : List Char := [99, 117, 116].map Char.ofNat
def w4 : List Char := [97, 116, 32, 108, 111, 111, 112, 46, 101, 120, 97, 109, 112, 108, 101, 47, 103, 48, 48, 50, 52, 48, 47, 108, 97, 119, 115, 46, 70, 110, 69, 120, 97, 99, 116, 79, 108, 100, 101, 115, 116, 79, 102, 32, 108, 111, 111, 112, 46, 101, 120, 97, 109, 112, 108, 101, 47, 103, 48, 48, 50, 52, 48, 47, 108, 97, 119, 115, 46, 70, 110, 77, 101, 116, 97, 115, 32, 108, 111, 111, 112, 46, 101, 120, 97, 109, 112, 108, 101, 47, 103, 48, 48, 50, 52, 48, 47, 108, 97, 119, 115, 46, 70, 110, 78, 111, 100, 101, 115, 32, 108, 111, 111, 112, 46, 101, 120, 97, 109, 112, 108, 101, 47, 103, 48, 48, 50, 52, 48, 47, 108, 97, 119, 115, 46, 70, 110, 69, 120, 97, 99, 116, 84, 114, 101, 101, 79, 107, 32, 108, 111, 111, 112, 46, 101, 120, 97, 109, 112, 108, 101, 47, 103, 48, 48, 50, 52, 48, 47, 108, 97, 119, 115, 46, 70, 110, 69, 120, 97, 99, 116, 65, 108, 108, 80, 97, 105, 114, 115, 32, 108, 111, 111, 112, 46, 101, 120, 97, 109, 112, 108, 101, 47, 103, 48, 48, 50, 52, 48, 47, 108, 97, 119, 115, 46, 70, 110, 69, 120, 97, 99, 116, 80, 97, 105, 114, 115, 70, 114, 111, 109, 32, 108, 111, 111, 112, 46, 101, 120, 97, 109, 112, 108, 101, 47, 103, 48, 48, 50, 52, 48, 47, 108, 97, 119, 115, 46, 70, 110, 69, 120, 97, 99, 116, 80, 97, 103, 101, 115, 79, 102, 32, 108, 111, 111, 112, 46, 101, 120, 97, 109, 112, 108, 101, 47, 103, 48, 48, 50, 52, 48, 47, 108, 97, 119, 115, 46, 70, 110, 69, 120, 97, 99, 116, 80, 97, 103, 101, 115, 82, 105, 103, 104, 116].map Char.ofNat
def blank : Char := Char.ofNat 32
theorem cut_at (a r : List Char) (h : a.all (· != blank) = true) : wordsSigns (a ++ blank :: r) = a :: wordsSigns r := by
 induction a with
 | nil => rfl
 | cons c a ih =>
  simp only [List.all_cons, Bool.and_eq_true, bne_iff_ne] at h
  have e := ih h.2
  have hc : ∀ s, wordsSigns (c :: s) = match wordsSigns s with | w :: ws => (c :: w) :: ws | [] => [[c]] := by
   intro s
   conv => lhs; unfold wordsSigns
   split
   ·rename_i h0; cases h0
   ·rename_i h0
    injection h0 with h1 h2
    exact absurd h1 h.1
   ·rename_i h0 _ h1
    injection h1 with h2 h3
    subst h2
    subst h3
    rfl
  show wordsSigns (c :: (a ++ blank :: r)) = _
  rw [hc, e]
theorem io : Try.prog.initOrder = String.ofList (w1 ++ blank :: (w2 ++ blank :: (w3 ++ blank :: w4))) := by kernel_rfl
theorem words : wordsSigns Try.prog.initOrder.toList = w1 :: w2 :: w3 :: wordsSigns w4 := by
 rw [io, String.toList_ofList, cut_at _ _ (by kernel_rfl), cut_at _ _ (by kernel_rfl), cut_at _ _ (by kernel_rfl)]
theorem m0 : ((w1 == "harness".toList || w1 == "ownmain".toList) && isSumSigns w2) = true := by kernel_rfl
theorem m1 : (w3 == "gc".toList) = false := by kernel_rfl
theorem m2 : (w3 == "spec".toList) = false := by kernel_rfl
theorem m3 : (w3 == "cut".toList) = true := by kernel_rfl
theorem m4 : (w3 == "carried".toList) = false := by kernel_rfl
theorem m5 (R : List (List Char)) : ((w3 :: R).head? == some "cut".toList) = true := by kernel_rfl
theorem m5c (R : List (List Char)) : ((w3 :: R).head? == some "carried".toList) = false := by kernel_rfl
theorem m6 (R : List (List Char)) : stripLifts liftWords (w3 :: R) = ([], w3 :: R) := by kernel_rfl
theorem m7 : Try.prog.laysLater = false := by kernel_rfl
theorem m8 : Try.prog.bearsReflect = false := by kernel_rfl
theorem m9 : Try.prog.doorFits [] = true := by kernel_rfl
theorem behind (R : List (List Char)) : behindMainWord (w1 :: w2 :: R) = R := by
 show (if ((w1 == "harness".toList || w1 == "ownmain".toList) && isSumSigns w2) = true then R else w1 :: w2 :: R) = R
 rw [if_pos m0]
theorem beh : ∃ R, behindMainWord (wordsSigns Try.prog.initOrder.toList) = w3 :: R := ⟨wordsSigns w4, by rw [words, behind]⟩
theorem lifts_of (P : Program) (R : List (List Char)) (h : behindMainWord (wordsSigns P.initOrder.toList) = w3 :: R) : (false == P.liftsFinal) = true := by
 unfold Program.liftsFinal Program.headLifts
 rw [h]
 simp only [m5, m5c, m6]
 rfl
theorem may_of (P : Program) (R : List (List Char)) (h : behindMainWord (wordsSigns P.initOrder.toList) = w3 :: R) (h7 : P.laysLater = false) (h8 : P.bearsReflect = false) (h9 : P.doorFits [] = true) : P.mayEnter = true := by
 unfold Program.mayEnter
 rw [h]
 simp only [m1, m2, m4, m5, m6, h7, h8, h9]
 rfl
theorem made_of (P : Program) (R : List (List Char)) (h : behindMainWord (wordsSigns P.initOrder.toList) = w3 :: R) : (P.make == some Make.cut) = true := by
 unfold Program.make Program.headLifts
 rw [h]
 simp only [m1, m2, m3]
 rfl
theorem lifts : (false == Try.prog.liftsFinal) = true := by
 obtain ⟨R, h⟩ := beh
 exact lifts_of _ R h
theorem may : Try.prog.mayEnter = true := by
 obtain ⟨R, h⟩ := beh
 exact may_of _ R h m7 m8 m9
theorem made : (Try.prog.make == some Make.cut) = true := by
 obtain ⟨R, h⟩ := beh
 exact made_of _ R h
theorem laid : laidOutB Try.prog = true := by kernel_rfl
theorem maps : mapsRowed Try.prog = true := by kernel_rfl
theorem heard : Try.prog.stopsHeard = true := by kernel_rfl
theorem plain : (true == Try.prog.plainKeys) = true := by kernel_rfl
end Go.Proofs.Ytapholbdjccapaa.Head
namespace Go.Proofs.Ytapholbdjccapaa.Opened
open Go.RowKit Go.Deep Go.WideShapes Go.Proofs.YtapholbdjccapaaW.PrintWords
def Opens {α : Type} (P : Program) (t : TypeId) (d : Kd α) (ok : α → Prop) : Prop :=
 ∀ (H : Type) (enc : TypeId × Value → H) (w : World) (base : Nat) (spare : Nat → Bool) (held : Bool) (fuel : Nat) (cs : List Value) (x : DataW H × List MemPlace),
  DataW.trod enc P w base spare held fuel t cs = some x → ∃ y : α, d.K w y cs ∧ ok y
variable {P : Program}
theorem opens_int {t : TypeId} {k : IntKind} (hu : P.underlying t = some (.int k)) : Opens P t (Kd.int k) (fun _ => True) := by
 intro H enc w base spare held fuel cs x h
 obtain ⟨n, rfl, _, _⟩ := DataW.trod_int hu h
 exact ⟨n, rfl, trivial⟩
theorem opens_string {t : TypeId} (hu : P.underlying t = some .string) : Opens P t Kd.string (fun s => s.size ≤ 9223372036854775807) := by
 intro H enc w base spare held fuel cs x h
 obtain ⟨n, rfl, _, hs⟩ := DataW.trod_string hu h
 exact ⟨n, rfl, by unfold maxLen at hs; omega⟩
theorem list_of {α : Type} (n : Nat) (Q : Nat → α → Prop) (h : ∀ i, i < n → ∃ y, Q i y) : ∃ ys : List α, ys.length = n ∧ ∀ j p, ys[j]? = some p → Q j p := by
 induction n with
 | zero => exact ⟨[], rfl, fun j p h => by simp at h⟩
 | succ n ih =>
  obtain ⟨ys, hl, hy⟩ := ih (fun i hi => h i (by omega))
  obtain ⟨y, hq⟩ := h n (by omega)
  refine ⟨ys ++ [y], by simp [hl], fun j p hj => ?_⟩
  rcases Nat.lt_or_ge j n with hlt | hge
  ·rw [List.getElem?_append_left (by omega)] at hj
   exact hy j p hj
  ·have hj' : j = n := by
    have := (List.getElem?_eq_some_iff.1 hj).1
    rw [List.length_append, List.length_singleton] at this
    omega
   subst hj'
   have : y = p := by rw [List.getElem?_append_right (by omega), hl, Nat.sub_self] at hj; simpa using hj
   subst this
   exact hq
theorem opens_slice {t e : TypeId} {α : Type} {d : Kd α} {ok : α → Prop} (hu : P.underlying t = some (.slice e)) (he : Opens P e d ok) (hc : P.cellsOf e = d.sz) (n : Nat) : Opens P t (Kd.slice n d) (fun ys => ∀ y ∈ ys, ok y) := by
 intro H enc w base spare held fuel cs x h
 rcases open_slice hu h with ⟨rfl, _⟩ | ⟨a, len, cap, m, n', D, Pl, rfl, _, hl, hm, hmm, _, hel⟩
 ·exact ⟨[], ⟨none, 0, rfl, Nat.le_refl _, rfl, by simp, fun h => by simp at h⟩, fun y hy => by cases hy⟩
 ·have hlm : len ≤ m := by
   rw [hmm]
   split <;> omega
  obtain ⟨ys, hy, hq⟩ := list_of len (fun i y => ok y ∧ ∃ cs', w.cells? base (a.add (i * P.cellsOf e)) (P.cellsOf e) = some cs' ∧ d.K w y cs') (fun i hi => by
   obtain ⟨cs', h1, h2⟩ := hel i (by omega)
   obtain ⟨y, hy, hok⟩ := he _ enc w base spare held n' cs' _ h2
   exact ⟨y, hok, cs', h1, hy⟩)
  subst hy
  refine ⟨ys, ⟨some a, cap, rfl, hl, rfl, by unfold maxLen at hm; omega, fun _ => ⟨a, rfl, fun j p hj => ?_⟩⟩, fun y hy => ?_⟩
  ·obtain ⟨_, cs', h1, h2⟩ := hq j p hj
   obtain ⟨_, h3, h4⟩ := World.cells?_some h1
   refine ⟨cs', h3.trans hc, h2, fun i u hi => ?_⟩
   have hi' : i < P.cellsOf e := by
    have := (List.getElem?_eq_some_iff.1 hi).1
    omega
   have := h4 i hi'
   rw [Addr.add_add, hc] at this
   rw [this]
   exact hi
  ·obtain ⟨j, hj, rfl⟩ := List.getElem_of_mem hy
   exact (hq j _ (List.getElem?_eq_getElem hj)).1
def Parts {α : Type} (P : Program) (fs : List Field) (o : Nat) (d : Kd α) (ok : α → Prop) : Prop :=
 ∀ (H : Type) (enc : TypeId × Value → H) (w : World) (base : Nat) (spare : Nat → Bool) (held : Bool) (fuel : Nat) (cs : List Value), cs.length = o + d.sz →
  (∀ f ∈ fs, ∃ x : DataW H × List MemPlace, DataW.trod enc P w base spare held fuel f.type ((cs.drop f.offset).take (P.cellsOf f.type)) = some x) → ∃ y : α, d.K w y (cs.drop o) ∧ ok y
theorem parts_last {α : Type} {d : Kd α} {ok : α → Prop} {f : Field} {o : Nat} (hf : Opens P f.type d ok) (ho : f.offset = o) (hc : P.cellsOf f.type = d.sz) : Parts P [f] o d ok := by
 intro H enc w base spare held fuel cs hl h
 obtain ⟨x, hx⟩ := h f (by simp)
 rw [ho, hc, List.take_of_length_le (by rw [List.length_drop]; omega)] at hx
 exact hf _ enc w base spare held fuel _ x hx
theorem parts_cons {α β : Type} {d : Kd α} {ds : Kd β} {ok : α → Prop} {oks : β → Prop} {f : Field} {fs : List Field} {o o' : Nat} (hf : Opens P f.type d ok) (ho : f.offset = o) (hc : P.cellsOf f.type = d.sz) (hs : Parts P fs o' ds oks) (ho' : o' = o + d.sz) : Parts P (f :: fs) o (Kd.pair d ds) (fun p => ok p.1 ∧ oks p.2) := by
 intro H enc w base spare held fuel cs hl h
 subst ho'
 have hl' : cs.length = o + (d.sz + ds.sz) := hl
 obtain ⟨x, hx⟩ := h f (by simp)
 rw [ho, hc] at hx
 obtain ⟨y, hy, oy⟩ := hf _ enc w base spare held fuel _ x hx
 obtain ⟨z, hz, oz⟩ := hs _ enc w base spare held fuel cs (by omega) (fun g hg => h g (by simp [hg]))
 refine ⟨(y, z), ⟨(cs.drop o).take d.sz, cs.drop (o + d.sz), ?_, hy, hz⟩, oy, oz⟩
 rw [← List.drop_drop]
 exact (List.take_append_drop _ _).symm
theorem opens_struct {t : TypeId} {fs : Array Field} {α β : Type} {d : Kd α} {ok : α → Prop} (hu : P.underlying t = some (.struct fs)) (hp : Parts P fs.toList 0 d ok) (hc : P.cellsOf t = d.sz) (f : β → α) (g : α → β) (hg : ∀ y, f (g y) = y) : Opens P t (Kd.iso d f) (fun y => ok (f y)) := by
 intro H enc w base spare held fuel cs x h
 obtain ⟨xs, n, _, _, hl, hlen, hi⟩ := DataW.trod_struct hu h
 obtain ⟨y, hy, oy⟩ := hp _ enc w base spare held n cs (by omega) (fun fl hfl => by
  obtain ⟨i, hlt, he⟩ := List.getElem_of_mem hfl
  have hlt' : i < fs.size := by simpa using hlt
  have := hi i fl (by rw [Array.getElem?_eq_getElem hlt']; simpa using he)
  rw [List.getElem?_eq_getElem (by omega)] at this
  exact ⟨_, this⟩)
 refine ⟨g y, ?_, ?_⟩
 ·show d.K w (f (g y)) cs
  rw [hg]
  simpa using hy
 ·show ok (f (g y))
  rw [hg]
  exact oy
theorem arg_struct {t : TypeId} {fs : Array Field} {α : Type} {d : Kd α} {ok : α → Prop} (hu : P.underlying t = some (.struct fs)) (ho : Opens P t d ok) {H : Type} {enc : TypeId × Value → H} {w : World} {base b0 : Nat} {spare : Nat → Bool} {held : Bool} {r : Reach} {v : Value} {x : DataW H} {p : List MemPlace}
  (hv : Value.okWide P w r b0 t v) (h : DataW.Trod enc P w base spare held t v x p) : ∃ (y : α) (cs : List Value), v = .agg cs.toArray ∧ d.K w y cs ∧ ok y := by
 obtain ⟨cs, rfl, _⟩ := okWide_struct hu hv
 obtain ⟨fuel, hf⟩ := h
 obtain ⟨y, hy, oy⟩ := ho _ enc w base spare held fuel _ _ hf
 exact ⟨y, cs.toList, by simp, by simpa [Value.cells] using hy, oy⟩
end Go.Proofs.Ytapholbdjccapaa.Opened
