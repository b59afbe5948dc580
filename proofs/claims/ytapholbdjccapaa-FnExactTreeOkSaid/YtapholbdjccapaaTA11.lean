import Derived.Test.YtapholbdjccapaaTA10
import Derived.ProofKit
import Derived.OpenShut
import Derived.Deep.Slices
namespace Go.Proofs.Ytapholbdjccapaa.PFnExactTreeOk
open Go.RowKit Go.Proofs.YtapholbdjccapaaW.PrintWords Go.Proofs.YtapholbdjccapaaW.PrintLast Go.Proofs.YtapholbdjccapaaW.PrintMore
attribute [local go_sem] max2_int min2_int max_two min_two max_three min_three max_four min_four   -- for this text's walks alone
set_option linter.unusedVariables false
set_option linter.unusedSimpArgs false
def laws_eqStringS.l0 : Nat → List ByteArray → List ByteArray → Int → Option (Bool)
 | 0, _, _, _ => none
 | k + 1, x0, x1, x5 => if x5 < (x0.length : Int) then (if 0 ≤ x5 then (if x5 < (x1.length : Int) then (if (rdOf ByteArray.empty x0 x5).toList = (rdOf ByteArray.empty x1 x5).toList then (laws_eqStringS.l0 k x0 x1 (wrap64 (x5 + 1))) else (none)) else (none)) else (none)) else (some true)
def laws_eqStringS.f (k : Nat) (l0 : List ByteArray) (l1 : List ByteArray) : Option (Bool) := if (l0.length : Int) = (l1.length : Int) then (laws_eqStringS.l0 k l0 l1 0) else (none)
theorem laws_eqStringS.mono_l : ∀ k, (∀ y0 y1 y2, LeO (laws_eqStringS.l0 k y0 y1 y2) (laws_eqStringS.l0 (k + 1) y0 y1 y2))
 | 0 => fun _ _ _ r h => by simp [laws_eqStringS.l0] at h
 | k + 1 => by
  have ih0 := laws_eqStringS.mono_l k
  ·intro y0 y1 y2
   unfold laws_eqStringS.l0
   repeat' first
   | (with_reducible exact ih0 _ _ _)
   | (with_reducible exact LeO.refl _)
   | (with_reducible exact LeO.none _)
   | (with_reducible refine LeO.ite ?_ ?_)
   | (with_reducible refine LeO.bind ?_ (fun _ => ?_))
   | exact ih0 _ _ _
   | exact LeO.none _
   | refine LeO.ite ?_ ?_
   | refine LeO.bind ?_ (fun _ => ?_)
theorem laws_eqStringS.mono : ∀ a0 a1 k, LeO (laws_eqStringS.f k a0 a1) (laws_eqStringS.f (k + 1) a0 a1) := by
 intro a0 a1 k
 have ih0 := laws_eqStringS.mono_l k
 unfold laws_eqStringS.f
 repeat' first
   | (with_reducible exact ih0 _ _ _)
   | (with_reducible exact LeO.refl _)
   | (with_reducible exact LeO.none _)
   | (with_reducible refine LeO.ite ?_ ?_)
   | (with_reducible refine LeO.bind ?_ (fun _ => ?_))
   | exact ih0 _ _ _
   | exact LeO.none _
   | refine LeO.ite ?_ ?_
   | refine LeO.bind ?_ (fun _ => ?_)
set_option maxHeartbeats 8000000 in
set_option maxRecDepth 100000 in
theorem laws_eqStringS.calls (k : Nat) (A0 : Option Addr) (c0 : Nat) (l0 : List ByteArray) (A1 : Option Addr) (c1 : Nat) (l1 : List ByteArray) (r : Bool) (w : World) (hr0 : Kd.C Kd.string w A0 l0.length l0) (hc0 : l0.length ≤ c0) (hr1 : Kd.C Kd.string w A1 l1.length l1) (hc1 : l1.length ≤ c1) (h : laws_eqStringS.f k l0 l1 = some r) :
  Calls Try.prog 103 #[.slice A0 l0.length c0, .slice A1 l1.length c1] w fun e w' => e = .returned (.bool r) ∧ Drawn0 w w' := by
 have HR0 := Aside0.mk hr0
 have HC0 := Aside0.mk hc0
 clear hr0 hc0
 have HR1 := Aside0.mk hr1
 have HC1 := Aside0.mk hc1
 clear hr1 hc1
 have H : (if (l0.length : Int) = (l1.length : Int) then (laws_eqStringS.l0 k l0 l1 0) else (none)) = some r := h
 clear h
 by_cases c3 : (l0.length : Int) = (l1.length : Int)
 ·rw [if_pos c3] at H
  have c3b0 : ((l0.length : Int) == (l1.length : Int)) = true := beq_iff_eq.mpr c3
  have c3b1 : ((l0.length : Int) != (l1.length : Int)) = false := bne_eq_false_iff_eq.mpr c3
  have c3b2 : (l0.length == l1.length) = true := by first | simpa using c3 | (simp at c3 ⊢; omega)
  clear c3
  have H' := Aside0.mk H
  clear H
  go_enter Try.func103, Try.ntmps103
  go_wp2
  repeat (go_quiet (fail); try go_wp2)
  go_loopg [5] k (fun kq v5 w' => ∃ (x5_1 : Int), v5 = .int .i64 x5_1 ∧ Aside0 (laws_eqStringS.l0 kq l0 l1 x5_1 = some r) ∧ Aside0 (kq ≤ k) ∧ Drawn0 w w')
  case atStart => exact ⟨(0), (by first | rfl | (simp; done) | (simp [*]; done)), H', ⟨Nat.le_refl _⟩, by repeat (first | exact Drawn0.refl _ | apply Drawn0.step)⟩
  case round =>
   clear H'
   try clear c1
   try clear p2
   try clear c3
   try clear c3b0
   try clear c3b1
   try clear c3b2
   obtain ⟨x5_1, rfl, HA, HK1, ⟨m1, rfl⟩⟩ := hrel
   cases gk with
   | zero => exact absurd HA.out (by simp [laws_eqStringS.l0])
   | succ k1 =>
    have H := HA.out
    clear HA
    simp only [laws_eqStringS.l0] at H
    by_cases c4 : x5_1 < (l0.length : Int)
    ·rw [if_pos c4] at H
     have c4b0 : decide (x5_1 < (l0.length : Int)) = true := decide_eq_true c4
     clear c4
     by_cases c5 : 0 ≤ x5_1
     ·rw [if_pos c5] at H
      have c5b0 : decide (0 ≤ x5_1) = true := decide_eq_true c5
      clear c5
      by_cases c6 : x5_1 < (l1.length : Int)
      ·rw [if_pos c6] at H
       have c6b0 : decide (x5_1 < (l1.length : Int)) = true := decide_eq_true c6
       clear c6
       by_cases c7 : (rdOf ByteArray.empty l0 x5_1).toList = (rdOf ByteArray.empty l1 x5_1).toList
       ·rw [if_pos c7] at H
        have c7b0 : ((rdOf ByteArray.empty l0 x5_1).toList == (rdOf ByteArray.empty l1 x5_1).toList) = true := beq_iff_eq.mpr c7
        have c7b1 : ((rdOf ByteArray.empty l0 x5_1).toList != (rdOf ByteArray.empty l1 x5_1).toList) = false := bne_eq_false_iff_eq.mpr c7
        clear c7
        have H' := Aside0.mk H
        clear H
        have p249 : 0 ≤ (x5_1 : Int) := of_decide_eq_true (by first | (with_reducible assumption) | assumption)
        have q249 : x5_1 < (l0.length : Int) := of_decide_eq_true (by first | (with_reducible assumption) | assumption)
        obtain ⟨ad249, e249, hx249_0⟩ := Kd.at_string HR0.out x5_1 p249 q249
        cases e249
        replace p249 := eq_true p249
        replace q249 := eq_true q249
        have p250 : 0 ≤ (x5_1 : Int) := of_decide_eq_true (by first | (with_reducible assumption) | assumption)
        have q250 : x5_1 < (l1.length : Int) := of_decide_eq_true (by first | (with_reducible assumption) | assumption)
        obtain ⟨ad250, e250, hx250_0⟩ := Kd.at_string HR1.out x5_1 p250 q250
        cases e250
        replace p250 := eq_true p250
        replace q250 := eq_true q250
        go_wp2
        repeat (go_quiet (fail); try go_wp2)
        go_roundg k1
        case measure => have := HK1.out; omega
        case rel => exact ⟨(wrap64 (x5_1 + 1)), (by first | rfl | (simp; done) | (simp [*]; done)), H', ⟨by have := HK1.out; omega⟩, by repeat (first | exact Drawn0.refl _ | apply Drawn0.step)⟩
       ·rw [if_neg c7] at H
        exact absurd H (by simp)
      ·rw [if_neg c6] at H
       exact absurd H (by simp)
     ·rw [if_neg c5] at H
      exact absurd H (by simp)
    ·rw [if_neg c4] at H
     have c4b0 : decide (x5_1 < (l0.length : Int)) = false := decide_eq_false c4
     clear c4
     obtain rfl := Option.some.inj H
     go_wp2
     repeat (go_quiet (fail); try go_wp2)
     go_ret
     exact ⟨by first | rfl | (simp; done) | (simp [*]; done), by repeat (first | exact Drawn0.refl _ | apply Drawn0.step)⟩
 ·rw [if_neg c3] at H
  exact absurd H (by simp)
def laws_eqPut.f (a0_0 : Int) (a0_1 : ByteArray) (a1_0 : Int) (a1_1 : ByteArray) : Option (Bool) := if a0_0 = a1_0 then (if a0_1.toList = a1_1.toList then (some true) else (none)) else (none)
set_option maxHeartbeats 8000000 in
set_option maxRecDepth 100000 in
theorem laws_eqPut.calls (a0_0 : Int) (a0_1 : ByteArray) (a1_0 : Int) (a1_1 : ByteArray) (r : Bool) (w : World) (h : laws_eqPut.f a0_0 a0_1 a1_0 a1_1 = some r) :
  Calls Try.prog 144 #[.agg #[.int .i64 a0_0, .string a0_1], .agg #[.int .i64 a1_0, .string a1_1]] w fun e w' => e = .returned (.bool r) ∧ Below w.heap.size w w' := by
 have hu189 := Try.underlying189
 have HB := Aside0.mk (Below.refl w.heap.size w)
 have H : (if a0_0 = a1_0 then (if a0_1.toList = a1_1.toList then (some true) else (none)) else (none)) = some r := h
 clear h
 by_cases c3 : a0_0 = a1_0
 ·rw [if_pos c3] at H
  have c3b0 : (a0_0 == a1_0) = true := beq_iff_eq.mpr c3
  have c3b1 : (a0_0 != a1_0) = false := bne_eq_false_iff_eq.mpr c3
  clear c3
  by_cases c4 : a0_1.toList = a1_1.toList
  ·rw [if_pos c4] at H
   have c4b0 : (a0_1.toList == a1_1.toList) = true := beq_iff_eq.mpr c4
   have c4b1 : (a0_1.toList != a1_1.toList) = false := bne_eq_false_iff_eq.mpr c4
   clear c4
   obtain rfl := Option.some.inj H
   go_enter Try.func144, Try.ntmps144
   go_wp2_with (first | ((with_reducible refine gate_dst (N := 2) rfl ?_); refine box_event ?hg (N := 2) ?hd (cs := #[.int .i64 a0_0, .string a0_1]) (t := 189) ?hr ?_; (case hd => rfl); (case hg => rfl); (case hr => first | (go_simp; done) | (go_simp; rfl)); intro gb251 hg w5 hbox hb; have n0_ := Aside0.mk (below_step (by repeat (first | (with_reducible first | exact HB.out | apply below_alloc | apply pw_below_drewN | apply below_drew1) | exact HB.out)) hb); have n1_ := Aside0.mk (hbox); have n2_ := Aside0.mk ((by rw [hg]; exact (below_size (by repeat (first | (with_reducible first | exact HB.out | apply below_alloc | apply pw_below_drewN | apply below_drew1) | exact HB.out))) : w.heap.size ≤ gb251)); have n3_ := Aside0.mk ((by rw [hg]; exact (below_size (by repeat (first | (with_reducible first | exact HB.out | apply below_alloc | apply pw_below_drewN | apply below_drew1) | exact HB.out))) : w.heap.size ≤ gb251)); clear HB; have HB := n0_; have BK251 := n1_; have GW251 := n2_; have GE251 := n3_; clear n0_ n1_ n2_ n3_; clear hb hbox hg) | ((with_reducible refine gate_dst (N := 3) rfl ?_); refine box_event ?hg (N := 3) ?hd (cs := #[.int .i64 a1_0, .string a1_1]) (t := 189) ?hr ?_; (case hd => rfl); (case hg => rfl); (case hr => first | (go_simp; done) | (go_simp; rfl)); intro gb252 hg w6 hbox hb; have n0_ := Aside0.mk (blk_below (g := gb251) (o := .cells #[.int .i64 a0_0, .string a0_1] 189 (0, 0)) (by (with_reducible repeat (first | refine blk_drewN ?_ _ | refine blk_drew ?_ | refine blk_alloc ?_ _)); exact BK251.out) hb); have n1_ := Aside0.mk (below_step (by repeat (first | (with_reducible first | exact HB.out | apply below_alloc | apply pw_below_drewN | apply below_drew1 | refine below_set ?_ GE251.out) | exact HB.out)) hb); have n2_ := Aside0.mk (hbox); have n3_ := Aside0.mk ((by rw [hg]; exact (below_size (by repeat (first | (with_reducible first | exact HB.out | apply below_alloc | apply pw_below_drewN | apply below_drew1 | refine below_set ?_ GE251.out) | exact HB.out))) : w.heap.size ≤ gb252)); have n4_ := Aside0.mk ((by rw [hg]; exact (below_size (by repeat (first | (with_reducible first | exact HB.out | apply below_alloc | apply pw_below_drewN | apply below_drew1 | refine below_set ?_ GE251.out) | exact HB.out))) : w.heap.size ≤ gb252)); have n5_ := Aside0.mk ((by rw [hg]; exact Nat.ne_of_lt (blk_lt (g := gb251) (o := .cells #[.int .i64 a0_0, .string a0_1] 189 (0, 0)) (by (with_reducible repeat (first | refine blk_drewN ?_ _ | refine blk_drew ?_ | refine blk_alloc ?_ _)); exact BK251.out)) : gb251 ≠ gb252)); have n6_ := Aside0.mk ((by rw [hg]; exact Nat.ne_of_gt (blk_lt (g := gb251) (o := .cells #[.int .i64 a0_0, .string a0_1] 189 (0, 0)) (by (with_reducible repeat (first | refine blk_drewN ?_ _ | refine blk_drew ?_ | refine blk_alloc ?_ _)); exact BK251.out)) : gb252 ≠ gb251)); clear BK251; clear HB; have BK251 := n0_; have HB := n1_; have BK252 := n2_; have GW252 := n3_; have GE252 := n4_; have NB251_252 := n5_; have NB252_251 := n6_; clear n0_ n1_ n2_ n3_ n4_ n5_ n6_; clear hb hbox hg; have hnb7 := NB251_252.out; have hnc7 := NB252_251.out; have hcz8_0 : w6.cell? ⟨gb251, 0, none⟩ = some (.int .i64 a0_0) := (blk_cell BK251.out 0).trans rfl; have hcz8_1 : w6.cell? ⟨gb251, 1, none⟩ = some (.string a0_1) := (blk_cell BK251.out 1).trans rfl; have hfz8_0 := blk_frozen BK251.out 0; have hfz8_1 := blk_frozen BK251.out 1; have hcz9_0 : w6.cell? ⟨gb252, 0, none⟩ = some (.int .i64 a1_0) := (blk_cell BK252.out 0).trans rfl; have hcz9_1 : w6.cell? ⟨gb252, 1, none⟩ = some (.string a1_1) := (blk_cell BK252.out 1).trans rfl; have hfz9_0 := blk_frozen BK252.out 0; have hfz9_1 := blk_frozen BK252.out 1))
   go_ret
   exact ⟨by first | rfl | (simp [errW_none, errW_some] <;> rfl) | (simp [*, errW_none, errW_some] <;> rfl), by repeat (first | (with_reducible first | exact HB.out | apply below_alloc | apply pw_below_drewN | apply below_drew1 | refine below_set ?_ GE251.out | refine below_set ?_ GE252.out) | exact HB.out)⟩
  ·rw [if_neg c4] at H
   exact absurd H (by simp)
 ·rw [if_neg c3] at H
  exact absurd H (by simp)
def laws_eqPutS.l0 : Nat → List (S189) → List (S189) → Int → Option (Bool)
 | 0, _, _, _ => none
 | k + 1, x0, x1, x5 => if x5 < (x0.length : Int) then (if 0 ≤ x5 then (if x5 < (x1.length : Int) then ((laws_eqPut.f ((rd_T189 x0 x5).f0) ((rd_T189 x0 x5).f1) ((rd_T189 x1 x5).f0) ((rd_T189 x1 x5).f1)).bind fun t255 => (if t255 = true then (laws_eqPutS.l0 k x0 x1 (wrap64 (x5 + 1))) else (none))) else (none)) else (none)) else (some true)
def laws_eqPutS.f (k : Nat) (l0 : List (S189)) (l1 : List (S189)) : Option (Bool) := if (l0.length : Int) = (l1.length : Int) then (laws_eqPutS.l0 k l0 l1 0) else (none)
theorem laws_eqPutS.mono_l : ∀ k, (∀ y0 y1 y2, LeO (laws_eqPutS.l0 k y0 y1 y2) (laws_eqPutS.l0 (k + 1) y0 y1 y2))
 | 0 => fun _ _ _ r h => by simp [laws_eqPutS.l0] at h
 | k + 1 => by
  have ih0 := laws_eqPutS.mono_l k
  ·intro y0 y1 y2
   unfold laws_eqPutS.l0
   repeat' first
   | (with_reducible exact ih0 _ _ _)
   | (with_reducible exact LeO.refl _)
   | (with_reducible exact LeO.none _)
   | (with_reducible refine LeO.ite ?_ ?_)
   | (with_reducible refine LeO.bind ?_ (fun _ => ?_))
   | exact ih0 _ _ _
   | exact LeO.none _
   | refine LeO.ite ?_ ?_
   | refine LeO.bind ?_ (fun _ => ?_)
theorem laws_eqPutS.mono : ∀ a0 a1 k, LeO (laws_eqPutS.f k a0 a1) (laws_eqPutS.f (k + 1) a0 a1) := by
 intro a0 a1 k
 have ih0 := laws_eqPutS.mono_l k
 unfold laws_eqPutS.f
 repeat' first
   | (with_reducible exact ih0 _ _ _)
   | (with_reducible exact LeO.refl _)
   | (with_reducible exact LeO.none _)
   | (with_reducible refine LeO.ite ?_ ?_)
   | (with_reducible refine LeO.bind ?_ (fun _ => ?_))
   | exact ih0 _ _ _
   | exact LeO.none _
   | refine LeO.ite ?_ ?_
   | refine LeO.bind ?_ (fun _ => ?_)
def laws_eqPutS.T6 : Bool × List (List Nat × List Nat) := (true, [([], []), ([], []), ([0, 1], [0, 1]), ([2], [2]), ([], []), ([], []), ([4, 5], [4, 5]), ([6], [6]), ([3, 7], [3, 7]), ([8], [8])])
def laws_eqPutS.B6 : List Nat := [0, 0, 3, 7, 0, 0, 48, 112, 255, 511]
theorem laws_eqPutS.tab6 : rtab .any (opsOf Try.f104 6) = laws_eqPutS.T6 := by kernel_rfl
theorem laws_eqPutS.bits6 : waitsOk laws_eqPutS.T6.2 laws_eqPutS.B6 = true := by kernel_rfl
set_option maxHeartbeats 8000000 in
set_option maxRecDepth 100000 in
theorem laws_eqPutS.calls (k : Nat) (A0 : Option Addr) (c0 : Nat) (l0 : List (S189)) (A1 : Option Addr) (c1 : Nat) (l1 : List (S189)) (r : Bool) (w : World) (hr0 : Kd.C k189 w A0 l0.length l0) (hc0 : l0.length ≤ c0) (hr1 : Kd.C k189 w A1 l1.length l1) (hc1 : l1.length ≤ c1) (h : laws_eqPutS.f k l0 l1 = some r) :
  Calls Try.prog 104 #[.slice A0 l0.length c0, .slice A1 l1.length c1] w fun e w' => e = .returned (.bool r) ∧ Below w.heap.size w w' := by
 have hu189 := Try.underlying189
 have HR0 := Aside0.mk hr0
 have HC0 := Aside0.mk hc0
 clear hr0 hc0
 have HR1 := Aside0.mk hr1
 have HC1 := Aside0.mk hc1
 clear hr1 hc1
 have HB := Aside0.mk (Below.refl w.heap.size w)
 have H : (if (l0.length : Int) = (l1.length : Int) then (laws_eqPutS.l0 k l0 l1 0) else (none)) = some r := h
 clear h
 by_cases c3 : (l0.length : Int) = (l1.length : Int)
 ·rw [if_pos c3] at H
  have c3b0 : ((l0.length : Int) == (l1.length : Int)) = true := beq_iff_eq.mpr c3
  have c3b1 : ((l0.length : Int) != (l1.length : Int)) = false := bne_eq_false_iff_eq.mpr c3
  have c3b2 : (l0.length == l1.length) = true := by first | simpa using c3 | (simp at c3 ⊢; omega)
  clear c3
  have H' := Aside0.mk H
  clear H
  go_enter Try.func104, Try.ntmps104
  go_wp2
  go_loopg [5] k (fun kq v5 w' => ∃ (x5_1 : Int), v5 = .int .i64 x5_1 ∧ Aside0 (laws_eqPutS.l0 kq l0 l1 x5_1 = some r) ∧ Aside0 (kq ≤ k) ∧ Aside0 (Below w.heap.size w w'))
  case atStart => exact ⟨(0), (by first | rfl | (simp; done) | (simp [*]; done)), H', ⟨Nat.le_refl _⟩, ⟨by repeat (first | (with_reducible first | exact HB.out | apply below_alloc | apply pw_below_drewN | apply below_drew1) | exact HB.out)⟩⟩
  case round =>
   clear H'
   try clear c1
   try clear p2
   try clear c3
   try clear c3b0
   try clear c3b1
   try clear c3b2
   obtain ⟨x5_1, rfl, HA, HK1, HB⟩ := hrel
   cases gk with
   | zero => exact absurd HA.out (by simp [laws_eqPutS.l0])
   | succ k1 =>
    have H := HA.out
    clear HA
    simp only [laws_eqPutS.l0] at H
    by_cases c4 : x5_1 < (l0.length : Int)
    ·rw [if_pos c4] at H
     have c4b0 : decide (x5_1 < (l0.length : Int)) = true := decide_eq_true c4
     clear c4
     by_cases c5 : 0 ≤ x5_1
     ·rw [if_pos c5] at H
      have c5b0 : decide (0 ≤ x5_1) = true := decide_eq_true c5
      clear c5
      by_cases c6 : x5_1 < (l1.length : Int)
      ·rw [if_pos c6] at H
       have c6b0 : decide (x5_1 < (l1.length : Int)) = true := decide_eq_true c6
       clear c6
       replace H := Option.bind_eq_some_iff.mp H
       obtain ⟨t255, A70, H⟩ := H
       replace H : (if t255 = true then (laws_eqPutS.l0 k1 l0 l1 (wrap64 (x5_1 + 1))) else (none)) = some r := H
       have A7 := Aside0.mk A70
       clear A70
       by_cases c8 : t255 = true
       ·subst c8
        have H1 : (laws_eqPutS.l0 k1 l0 l1 (wrap64 (x5_1 + 1))) = some r := by rw [if_pos rfl] at H; exact H
        clear H
        have H := H1
        clear H1
        have H' := Aside0.mk H
        clear H
        try go_wp2
        have n0_ := Aside0.mk (below_drew1 HB.out)
        clear HB
        have HB := n0_
        clear n0_
        have p253 : 0 ≤ (x5_1 : Int) := of_decide_eq_true (by first | (with_reducible assumption) | assumption)
        have q253 : x5_1 < (l0.length : Int) := of_decide_eq_true (by first | (with_reducible assumption) | assumption)
        obtain ⟨ad253, e253, hx253_0, hx253_1⟩ := at_T189 HR0.out x5_1 p253 q253
        have hw253_1 := hx253_1
        have hw253_0 := hx253_0
        cases e253
        replace hx253_0 := (HB.out.cell (World.block_lt_of_cell? w _ hx253_0)).trans hx253_0
        replace hx253_1 := (HB.out.cell (World.block_lt_of_cell? w _ hx253_1)).trans hx253_1
        replace p253 := eq_true p253
        replace q253 := eq_true q253
        have p254 : 0 ≤ (x5_1 : Int) := of_decide_eq_true (by first | (with_reducible assumption) | assumption)
        have q254 : x5_1 < (l1.length : Int) := of_decide_eq_true (by first | (with_reducible assumption) | assumption)
        obtain ⟨ad254, e254, hx254_0, hx254_1⟩ := at_T189 HR1.out x5_1 p254 q254
        have hw254_1 := hx254_1
        have hw254_0 := hx254_0
        cases e254
        replace hx254_0 := (HB.out.cell (World.block_lt_of_cell? w _ hx254_0)).trans hx254_0
        replace hx254_1 := (HB.out.cell (World.block_lt_of_cell? w _ hx254_1)).trans hx254_1
        replace p254 := eq_true p254
        replace q254 := eq_true q254
        refine start_ (n := 10) (S := fun w' => w'.cell? (ad253.add ((x5_1).toNat * 2)) = some (.int .i64 ((rd_T189 l0 x5_1).f0)) ∧ w'.cell? ⟨(ad253.add ((x5_1).toNat * 2)).block, (ad253.add ((x5_1).toNat * 2)).off + 1, none⟩ = some (.string ((rd_T189 l0 x5_1).f1)) ∧ w'.cell? (ad254.add ((x5_1).toNat * 2)) = some (.int .i64 ((rd_T189 l1 x5_1).f0)) ∧ w'.cell? ⟨(ad254.add ((x5_1).toNat * 2)).block, (ad254.add ((x5_1).toNat * 2)).off + 1, none⟩ = some (.string ((rd_T189 l1 x5_1).f1))) (ds := []) #[false, false, false, false, false, false, false, false, false, false] (by kernel_rfl) rfl rfl ⟨((HB.out.cell (World.block_lt_of_cell? w _ hw253_0)).trans hw253_0), ((HB.out.cell (World.block_lt_of_cell? w _ hw253_1)).trans hw253_1), ((HB.out.cell (World.block_lt_of_cell? w _ hw254_0)).trans hw254_0), ((HB.out.cell (World.block_lt_of_cell? w _ hw254_1)).trans hw254_1)⟩ (fun hHeld => ?_); refine with_tabW laws_eqPutS.tab6 laws_eqPutS.bits6 (fun HT_ HW_ => ?_)
        generalize wr.drew = w9 at HB hx253_0 hx253_1 hx254_0 hx254_1 hHeld ⊢
        refine pure_ (i := 0) (N := some 17) (v := ?_) (a' := ?_) #[true, false, false, false, false, false, false, false, false, false] rfl rfl (any_of HT_.out (by kernel_rfl)) (fun _ _ _ h => h) (Or.inl ⟨by rfl, ?_⟩) ?_ ?_
        rotate_left
        ·intro w'
         go_simp
         with_reducible rfl
        rotate_left
        ·simp only [Act.put, List.setIfInBounds_toArray, List.set_cons_zero, List.set_cons_succ, i64_w, i32_w]
         rfl
        refine pure_ (i := 1) (N := some 18) (v := ?_) (a' := ?_) #[true, true, false, false, false, false, false, false, false, false] rfl rfl (any_of HT_.out (by kernel_rfl)) (fun _ _ _ h => h) (Or.inl ⟨by rfl, ?_⟩) ?_ ?_
        rotate_left
        ·intro w'
         go_simp
         with_reducible rfl
        rotate_left
        ·simp only [Act.put, List.setIfInBounds_toArray, List.set_cons_zero, List.set_cons_succ, i64_w, i32_w]
         rfl
        refine pure_ (i := 2) (N := some 19) (v := ?_) (a' := ?_) #[true, true, true, false, false, false, false, false, false, false] rfl rfl (any_of HT_.out (by kernel_rfl)) (fun _ _ _ h => h) (Or.inl ⟨by rfl, ?_⟩) ?_ ?_
        rotate_left
        ·intro w'
         go_simp
         with_reducible rfl
        rotate_left
        ·simp only [Act.put, List.setIfInBounds_toArray, List.set_cons_zero, List.set_cons_succ, i64_w, i32_w]
         rfl
        refine pure_ (i := 4) (N := some 21) (v := ?_) (a' := ?_) #[true, true, true, false, true, false, false, false, false, false] rfl rfl (any_of HT_.out (by kernel_rfl)) (fun _ _ _ h => h) (Or.inl ⟨by rfl, ?_⟩) ?_ ?_
        rotate_left
        ·intro w'
         go_simp
         with_reducible rfl
        rotate_left
        ·simp only [Act.put, List.setIfInBounds_toArray, List.set_cons_zero, List.set_cons_succ, i64_w, i32_w]
         rfl
        refine pure_ (i := 5) (N := some 22) (v := ?_) (a' := ?_) #[true, true, true, false, true, true, false, false, false, false] rfl rfl (any_of HT_.out (by kernel_rfl)) (fun _ _ _ h => h) (Or.inl ⟨by rfl, ?_⟩) ?_ ?_
        rotate_left
        ·intro w'
         go_simp
         with_reducible rfl
        rotate_left
        ·simp only [Act.put, List.setIfInBounds_toArray, List.set_cons_zero, List.set_cons_succ, i64_w, i32_w]
         rfl
        refine pure_ (i := 6) (N := some 23) (v := ?_) (a' := ?_) #[true, true, true, false, true, true, true, false, false, false] rfl rfl (any_of HT_.out (by kernel_rfl)) (fun _ _ _ h => h) (Or.inl ⟨by rfl, ?_⟩) ?_ ?_
        rotate_left
        ·intro w'
         go_simp
         with_reducible rfl
        rotate_left
        ·simp only [Act.put, List.setIfInBounds_toArray, List.set_cons_zero, List.set_cons_succ, i64_w, i32_w]
         rfl
        refine take_ (i := 3) (N := some 20) (v := ?_) (a' := ?_) #[true, true, true, true, true, true, true, false, false, false] rfl rfl (take_ofW HT_.out HW_.out (by kernel_rfl)) (fun _ _ _ h => h) (Or.inl ⟨by rfl, ?_⟩) hHeld ?_ ?_
        rotate_left
        ·rintro w' ⟨s0, s1, s2, s3⟩
         go_simp
         with_reducible rfl
        rotate_left
        ·simp only [Act.put, List.setIfInBounds_toArray, List.set_cons_zero, List.set_cons_succ, i64_w, i32_w]
         rfl
        refine take_ (i := 7) (N := some 24) (v := ?_) (a' := ?_) #[true, true, true, true, true, true, true, true, false, false] rfl rfl (take_ofW HT_.out HW_.out (by kernel_rfl)) (fun _ _ _ h => h) (Or.inl ⟨by rfl, ?_⟩) hHeld ?_ ?_
        rotate_left
        ·rintro w' ⟨s0, s1, s2, s3⟩
         go_simp
         with_reducible rfl
        rotate_left
        ·simp only [Act.put, List.setIfInBounds_toArray, List.set_cons_zero, List.set_cons_succ, i64_w, i32_w]
         rfl
        refine one_ (i := 8) (N := some 25) #[true, true, true, true, true, true, true, true, true, false] rfl rfl (one_of HT_.out (by kernel_rfl)) (by decide) (fun K hK => ?_)
        refine goes_ Try.func144 (by kernel_rfl) rfl #[.agg #[.int .i64 ((rd_T189 l0 x5_1).f0), .string ((rd_T189 l0 x5_1).f1)], .agg #[.int .i64 ((rd_T189 l1 x5_1).f0), .string ((rd_T189 l1 x5_1).f1)]] (by rfl) rfl rfl (by (try simp only [List.map_toArray, List.map_cons, List.map_nil]); first | done | rfl | (simp only [List.length_drop, List.length_take]; rfl)) ?_
        with_reducible refine (laws_eqPut.calls ((rd_T189 l0 x5_1).f0) ((rd_T189 l0 x5_1).f1) ((rd_T189 l1 x5_1).f0) ((rd_T189 l1 x5_1).f1) true _ A7.out).mono ?_
        rintro e w10 ⟨rfl, hb⟩
        refine ⟨_, rfl, ?_⟩
        have n0_ := Aside0.mk (below_step (by repeat (first | (with_reducible first | exact HB.out | apply below_alloc | apply pw_below_drewN | apply below_drew1) | exact HB.out)) hb)
        clear HB
        have HB := n0_
        clear n0_
        (try clear hb)
        (try clear hb2)
        (try clear hk)
        (try clear hi)
        refine hK.out _ _ ⟨((HB.out.cell (World.block_lt_of_cell? w _ hw253_0)).trans hw253_0), ((HB.out.cell (World.block_lt_of_cell? w _ hw253_1)).trans hw253_1), ((HB.out.cell (World.block_lt_of_cell? w _ hw254_0)).trans hw254_0), ((HB.out.cell (World.block_lt_of_cell? w _ hw254_1)).trans hw254_1)⟩ (fun hHeld => ?_)
        clear hK K
        refine norm_ (a' := ?_) ?_ ?_
        rotate_left
        ·show Act.put _ (some 25) _ = _
         simp only [Act.put, List.setIfInBounds_toArray, List.set_cons_zero, List.set_cons_succ, i64_w, i32_w]
         rfl
        refine pure_ (i := 9) (N := some 26) (v := ?_) (a' := ?_) #[true, true, true, true, true, true, true, true, true, true] rfl rfl (any_of HT_.out (by kernel_rfl)) (fun _ _ _ h => h) (Or.inl ⟨by rfl, ?_⟩) ?_ ?_
        rotate_left
        ·intro w'
         go_simp
         with_reducible rfl
        rotate_left
        ·simp only [Act.put, List.setIfInBounds_toArray, List.set_cons_zero, List.set_cons_succ, i64_w, i32_w]
         rfl
        refine done_ (done_of HT_.out (by kernel_rfl)) ?_
        try go_wp2
        go_roundg k1
        case measure => have := HK1.out; omega
        case rel => exact ⟨(wrap64 (x5_1 + 1)), (by first | rfl | (simp; done) | (simp [*]; done)), H', ⟨by have := HK1.out; omega⟩, ⟨by repeat (first | (with_reducible first | exact HB.out | apply below_alloc | apply pw_below_drewN | apply below_drew1) | exact HB.out)⟩⟩
       ·replace c8 := Bool.eq_false_iff.mpr c8
        subst c8
        have H1 : (none) = some r := by rw [if_neg (show ¬ (false = true) by decide)] at H; exact H
        clear H
        have H := H1
        clear H1
        exact absurd H (by simp)
      ·rw [if_neg c6] at H
       exact absurd H (by simp)
     ·rw [if_neg c5] at H
      exact absurd H (by simp)
    ·rw [if_neg c4] at H
     have c4b0 : decide (x5_1 < (l0.length : Int)) = false := decide_eq_false c4
     clear c4
     obtain rfl := Option.some.inj H
     go_wp2
     go_ret
     exact ⟨by first | rfl | (simp [errW_none, errW_some] <;> rfl) | (simp [*, errW_none, errW_some] <;> rfl), by repeat (first | (with_reducible first | exact HB.out | apply below_alloc | apply pw_below_drewN | apply below_drew1) | exact HB.out)⟩
 ·rw [if_neg c3] at H
  exact absurd H (by simp)
def laws_eqDisk.f (k : Nat) (l0_0 : List ByteArray) (l0_1 : List (S189)) (l1_0 : List ByteArray) (l1_1 : List (S189)) : Option (Bool) := (laws_eqStringS.f k l0_0 l1_0).bind fun t258 => (if t258 = true then ((laws_eqPutS.f k l0_1 l1_1).bind fun t259 => (if t259 = true then (some true) else (none))) else (none))
set_option maxHeartbeats 8000000 in
set_option maxRecDepth 100000 in
theorem laws_eqDisk.calls (k : Nat) (A0_0 : Option Addr) (c0_0 : Nat) (l0_0 : List ByteArray) (A0_1 : Option Addr) (c0_1 : Nat) (l0_1 : List (S189)) (A1_0 : Option Addr) (c1_0 : Nat) (l1_0 : List ByteArray) (A1_1 : Option Addr) (c1_1 : Nat) (l1_1 : List (S189)) (r : Bool) (w : World) (hr0_0 : Kd.C Kd.string w A0_0 l0_0.length l0_0) (hc0_0 : l0_0.length ≤ c0_0) (hr0_1 : Kd.C k189 w A0_1 l0_1.length l0_1) (hc0_1 : l0_1.length ≤ c0_1) (hr1_0 : Kd.C Kd.string w A1_0 l1_0.length l1_0) (hc1_0 : l1_0.length ≤ c1_0) (hr1_1 : Kd.C k189 w A1_1 l1_1.length l1_1) (hc1_1 : l1_1.length ≤ c1_1) (h : laws_eqDisk.f k l0_0 l0_1 l1_0 l1_1 = some r) :
  Calls Try.prog 40 #[.agg #[.slice A0_0 l0_0.length c0_0, .slice A0_1 l0_1.length c0_1], .agg #[.slice A1_0 l1_0.length c1_0, .slice A1_1 l1_1.length c1_1]] w fun e w' => e = .returned (.bool r) ∧ Below w.heap.size w w' := by
 have hu41 := Try.underlying41
 have HR0_0 := Aside0.mk hr0_0
 have HC0_0 := Aside0.mk hc0_0
 clear hr0_0 hc0_0
 have HR0_1 := Aside0.mk hr0_1
 have HC0_1 := Aside0.mk hc0_1
 clear hr0_1 hc0_1
 have HR1_0 := Aside0.mk hr1_0
 have HC1_0 := Aside0.mk hc1_0
 clear hr1_0 hc1_0
 have HR1_1 := Aside0.mk hr1_1
 have HC1_1 := Aside0.mk hc1_1
 clear hr1_1 hc1_1
 have HB := Aside0.mk (Below.refl w.heap.size w)
 have H : ((laws_eqStringS.f k l0_0 l1_0).bind fun t258 => (if t258 = true then ((laws_eqPutS.f k l0_1 l1_1).bind fun t259 => (if t259 = true then (some true) else (none))) else (none))) = some r := h
 clear h
 replace H := Option.bind_eq_some_iff.mp H
 obtain ⟨t258, A30, H⟩ := H
 replace H : (if t258 = true then ((laws_eqPutS.f k l0_1 l1_1).bind fun t259 => (if t259 = true then (some true) else (none))) else (none)) = some r := H
 have A3 := Aside0.mk A30
 clear A30
 by_cases c4 : t258 = true
 ·subst c4
  have H1 : ((laws_eqPutS.f k l0_1 l1_1).bind fun t259 => (if t259 = true then (some true) else (none))) = some r := by rw [if_pos rfl] at H; exact H
  clear H
  have H := H1
  clear H1
  replace H := Option.bind_eq_some_iff.mp H
  obtain ⟨t259, A50, H⟩ := H
  replace H : (if t259 = true then (some true) else (none)) = some r := H
  have A5 := Aside0.mk A50
  clear A50
  by_cases c6 : t259 = true
  ·subst c6
   have H1 : (some true) = some r := by rw [if_pos rfl] at H; exact H
   clear H
   have H := H1
   clear H1
   obtain rfl := Option.some.inj H
   go_enter Try.func40, Try.ntmps40
   go_wp2_with (first | ((with_reducible refine gate_dst (N := 2) rfl ?_); refine box_event ?hg (N := 2) ?hd (cs := #[.slice A0_0 l0_0.length c0_0, .slice A0_1 l0_1.length c0_1]) (t := 41) ?hr ?_; (case hd => rfl); (case hg => rfl); (case hr => first | (go_simp; done) | (go_simp; rfl)); intro gb256 hg w7 hbox hb; have n0_ := Aside0.mk (below_step (by repeat (first | (with_reducible first | exact HB.out | apply below_alloc | apply pw_below_drewN | apply below_drew1) | exact HB.out)) hb); have n1_ := Aside0.mk (hbox); have n2_ := Aside0.mk ((by rw [hg]; exact (below_size (by repeat (first | (with_reducible first | exact HB.out | apply below_alloc | apply pw_below_drewN | apply below_drew1) | exact HB.out))) : w.heap.size ≤ gb256)); have n3_ := Aside0.mk ((by rw [hg]; exact (below_size (by repeat (first | (with_reducible first | exact HB.out | apply below_alloc | apply pw_below_drewN | apply below_drew1) | exact HB.out))) : w.heap.size ≤ gb256)); clear HB; have HB := n0_; have BK256 := n1_; have GW256 := n2_; have GE256 := n3_; clear n0_ n1_ n2_ n3_; clear hb hbox hg) | ((with_reducible refine gate_dst (N := 3) rfl ?_); refine box_event ?hg (N := 3) ?hd (cs := #[.slice A1_0 l1_0.length c1_0, .slice A1_1 l1_1.length c1_1]) (t := 41) ?hr ?_; (case hd => rfl); (case hg => rfl); (case hr => first | (go_simp; done) | (go_simp; rfl)); intro gb257 hg w8 hbox hb; have n0_ := Aside0.mk (blk_below (g := gb256) (o := .cells #[.slice A0_0 l0_0.length c0_0, .slice A0_1 l0_1.length c0_1] 41 (0, 0)) (by (with_reducible repeat (first | refine blk_drewN ?_ _ | refine blk_drew ?_ | refine blk_alloc ?_ _)); exact BK256.out) hb); have n1_ := Aside0.mk (below_step (by repeat (first | (with_reducible first | exact HB.out | apply below_alloc | apply pw_below_drewN | apply below_drew1 | refine below_set ?_ GE256.out) | exact HB.out)) hb); have n2_ := Aside0.mk (hbox); have n3_ := Aside0.mk ((by rw [hg]; exact (below_size (by repeat (first | (with_reducible first | exact HB.out | apply below_alloc | apply pw_below_drewN | apply below_drew1 | refine below_set ?_ GE256.out) | exact HB.out))) : w.heap.size ≤ gb257)); have n4_ := Aside0.mk ((by rw [hg]; exact (below_size (by repeat (first | (with_reducible first | exact HB.out | apply below_alloc | apply pw_below_drewN | apply below_drew1 | refine below_set ?_ GE256.out) | exact HB.out))) : w.heap.size ≤ gb257)); have n5_ := Aside0.mk ((by rw [hg]; exact Nat.ne_of_lt (blk_lt (g := gb256) (o := .cells #[.slice A0_0 l0_0.length c0_0, .slice A0_1 l0_1.length c0_1] 41 (0, 0)) (by (with_reducible repeat (first | refine blk_drewN ?_ _ | refine blk_drew ?_ | refine blk_alloc ?_ _)); exact BK256.out)) : gb256 ≠ gb257)); have n6_ := Aside0.mk ((by rw [hg]; exact Nat.ne_of_gt (blk_lt (g := gb256) (o := .cells #[.slice A0_0 l0_0.length c0_0, .slice A0_1 l0_1.length c0_1] 41 (0, 0)) (by (with_reducible repeat (first | refine blk_drewN ?_ _ | refine blk_drew ?_ | refine blk_alloc ?_ _)); exact BK256.out)) : gb257 ≠ gb256)); clear BK256; clear HB; have BK256 := n0_; have HB := n1_; have BK257 := n2_; have GW257 := n3_; have GE257 := n4_; have NB256_257 := n5_; have NB257_256 := n6_; clear n0_ n1_ n2_ n3_ n4_ n5_ n6_; clear hb hbox hg; have hnb9 := NB256_257.out; have hnc9 := NB257_256.out; have hcz10_0 : w8.cell? ⟨gb256, 0, none⟩ = some (.slice A0_0 l0_0.length c0_0) := (blk_cell BK256.out 0).trans rfl; have hcz10_1 : w8.cell? ⟨gb256, 1, none⟩ = some (.slice A0_1 l0_1.length c0_1) := (blk_cell BK256.out 1).trans rfl; have hfz10_0 := blk_frozen BK256.out 0; have hfz10_1 := blk_frozen BK256.out 1; have hcz11_0 : w8.cell? ⟨gb257, 0, none⟩ = some (.slice A1_0 l1_0.length c1_0) := (blk_cell BK257.out 0).trans rfl; have hcz11_1 : w8.cell? ⟨gb257, 1, none⟩ = some (.slice A1_1 l1_1.length c1_1) := (blk_cell BK257.out 1).trans rfl; have hfz11_0 := blk_frozen BK257.out 0; have hfz11_1 := blk_frozen BK257.out 1) | ((with_reducible refine gate_callee (f := 103) rfl ?_); refine goesL_ (some 9) rfl rfl Try.func103 (by kernel_rfl) rfl #[.slice A0_0 l0_0.length c0_0, .slice A1_0 l1_0.length c1_0] rfl (by (try simp only [List.map_toArray, List.map_cons, List.map_nil]); first | done | rfl | (simp only [List.length_drop, List.length_take]; rfl)) ?_; (with_reducible refine (laws_eqStringS.calls k _ _ l0_0 _ _ l1_0 true _ ?side1 ?side2 ?side3 ?side4 A3.out).mono ?_); (case side1 => repeat (first | exact (Kd.C_below HR0_0.out HB.out) | (with_reducible refine Kd.C_alloc ?_ _) | (with_reducible refine Kd.C_drewN ?_ _) | (with_reducible refine Kd.C_drew ?_))); (case side2 => exact HC0_0.out); (case side3 => repeat (first | exact (Kd.C_below HR1_0.out HB.out) | (with_reducible refine Kd.C_alloc ?_ _) | (with_reducible refine Kd.C_drewN ?_ _) | (with_reducible refine Kd.C_drew ?_))); (case side4 => exact HC1_0.out); rintro e w' ⟨rfl, ⟨nd, rfl⟩⟩; refine ⟨_, rfl, ?_⟩) | ((with_reducible refine gate_callee (f := 104) rfl ?_); refine goesL_ (some 15) rfl rfl Try.func104 (by kernel_rfl) rfl #[.slice A0_1 l0_1.length c0_1, .slice A1_1 l1_1.length c1_1] rfl (by (try simp only [List.map_toArray, List.map_cons, List.map_nil]); first | done | rfl | (simp only [List.length_drop, List.length_take]; rfl)) ?_; (with_reducible refine (laws_eqPutS.calls k _ _ l0_1 _ _ l1_1 true _ ?side1 ?side2 ?side3 ?side4 A5.out).mono ?_); (case side1 => repeat (first | exact (Kd.C_below HR0_1.out (by repeat (first | (with_reducible first | exact HB.out | apply below_alloc | apply pw_below_drewN | apply below_drew1 | refine below_set ?_ GE256.out | refine below_set ?_ GE257.out) | exact HB.out))) | (with_reducible refine Kd.C_alloc ?_ _) | (with_reducible refine Kd.C_drewN ?_ _) | (with_reducible refine Kd.C_drew ?_))); (case side2 => exact HC0_1.out); (case side3 => repeat (first | exact (Kd.C_below HR1_1.out (by repeat (first | (with_reducible first | exact HB.out | apply below_alloc | apply pw_below_drewN | apply below_drew1 | refine below_set ?_ GE256.out | refine below_set ?_ GE257.out) | exact HB.out))) | (with_reducible refine Kd.C_alloc ?_ _) | (with_reducible refine Kd.C_drewN ?_ _) | (with_reducible refine Kd.C_drew ?_))); (case side4 => exact HC1_1.out); rintro e w12 ⟨rfl, hb⟩; refine ⟨_, rfl, ?_⟩; have n0_ := Aside0.mk (blk_below (g := gb256) (o := .cells #[.slice A0_0 l0_0.length c0_0, .slice A0_1 l0_1.length c0_1] 41 (0, 0)) (by (with_reducible repeat (first | refine blk_drewN ?_ _ | refine blk_drew ?_ | refine blk_alloc ?_ _)); exact BK256.out) hb); have n1_ := Aside0.mk (blk_below (g := gb257) (o := .cells #[.slice A1_0 l1_0.length c1_0, .slice A1_1 l1_1.length c1_1] 41 (0, 0)) (by (with_reducible repeat (first | refine blk_drewN ?_ _ | refine blk_drew ?_ | refine blk_alloc ?_ _)); exact BK257.out) hb); have n2_ := Aside0.mk (below_step (by repeat (first | (with_reducible first | exact HB.out | apply below_alloc | apply pw_below_drewN | apply below_drew1 | refine below_set ?_ GE256.out | refine below_set ?_ GE257.out) | exact HB.out)) hb); clear BK256; clear BK257; clear HB; have BK256 := n0_; have BK257 := n1_; have HB := n2_; clear n0_ n1_ n2_; (try clear hb); (try clear hb2); (try clear hk); (try clear hi)))
   go_ret
   exact ⟨by first | rfl | (simp [errW_none, errW_some] <;> rfl) | (simp [*, errW_none, errW_some] <;> rfl), by repeat (first | (with_reducible first | exact HB.out | apply below_alloc | apply pw_below_drewN | apply below_drew1 | refine below_set ?_ GE256.out | refine below_set ?_ GE257.out) | exact HB.out)⟩
  ·replace c6 := Bool.eq_false_iff.mpr c6
   subst c6
   have H1 : (none) = some r := by rw [if_neg (show ¬ (false = true) by decide)] at H; exact H
   clear H
   have H := H1
   clear H1
   exact absurd H (by simp)
 ·replace c4 := Bool.eq_false_iff.mpr c4
  subst c4
  have H1 : (none) = some r := by rw [if_neg (show ¬ (false = true) by decide)] at H; exact H
  clear H
  have H := H1
  clear H1
  exact absurd H (by simp)
noncomputable def laws_FnExactTreeOk.f (k : Nat) (l0_0 : List ByteArray) (l0_1 : List (S187)) (a1 : Int) : Option (Bool) := (laws_szDisk.f k l0_0 l0_1 1048576).bind fun t261 => (if t261 < 0 then (some true) else ((laws_toDisk.f k l0_0 l0_1).bind fun bt262 => ((spec_TreeOk.f bt262.1 bt262.2 a1).bind fun t268 => ((laws_toDisk.f k l0_0 l0_1).bind fun bt269 => ((impl_TreeOk.f bt269.1 bt269.2 a1).bind fun t276 => (if (t276 != t268) = true then (none) else ((laws_toDisk.f k l0_0 l0_1).bind fun bt277 => ((laws_eqDisk.f k bt269.1 bt269.2 bt277.1 bt277.2).bind fun t283 => (if t283 = true then (some true) else (none))))))))))
set_option maxHeartbeats 8000000 in
set_option maxRecDepth 100000 in
theorem laws_FnExactTreeOk.calls (k : Nat) (A0_0 : Option Addr) (c0_0 : Nat) (l0_0 : List ByteArray) (A0_1 : Option Addr) (c0_1 : Nat) (l0_1 : List (S187)) (a1 : Int) (r : Bool) (w : World) (hr0_0 : Kd.C Kd.string w A0_0 l0_0.length l0_0) (hc0_0 : l0_0.length ≤ c0_0) (hr0_1 : Kd.C k187 w A0_1 l0_1.length l0_1) (hc0_1 : l0_1.length ≤ c0_1) (h : laws_FnExactTreeOk.f k l0_0 l0_1 a1 = some r) :
  Calls Try.prog 6 #[.agg #[.slice A0_0 l0_0.length c0_0, .slice A0_1 l0_1.length c0_1], .int .i64 a1] w fun e w' => e = .returned (.bool r) ∧ Below w.heap.size w w' := by
 have hu25 := Try.underlying25
 have hu41 := Try.underlying41
 have HR0_0 := Aside0.mk hr0_0
 have HC0_0 := Aside0.mk hc0_0
 clear hr0_0 hc0_0
 have HR0_1 := Aside0.mk hr0_1
 have HC0_1 := Aside0.mk hc0_1
 clear hr0_1 hc0_1
 have HB := Aside0.mk (Below.refl w.heap.size w)
 have H : ((laws_szDisk.f k l0_0 l0_1 1048576).bind fun t261 => (if t261 < 0 then (some true) else ((laws_toDisk.f k l0_0 l0_1).bind fun bt262 => ((spec_TreeOk.f bt262.1 bt262.2 a1).bind fun t268 => ((laws_toDisk.f k l0_0 l0_1).bind fun bt269 => ((impl_TreeOk.f bt269.1 bt269.2 a1).bind fun t276 => (if (t276 != t268) = true then (none) else ((laws_toDisk.f k l0_0 l0_1).bind fun bt277 => ((laws_eqDisk.f k bt269.1 bt269.2 bt277.1 bt277.2).bind fun t283 => (if t283 = true then (some true) else (none))))))))))) = some r := h
 clear h
 replace H := Option.bind_eq_some_iff.mp H
 obtain ⟨t261, A30, H⟩ := H
 replace H : (if t261 < 0 then (some true) else ((laws_toDisk.f k l0_0 l0_1).bind fun bt262 => ((spec_TreeOk.f bt262.1 bt262.2 a1).bind fun t268 => ((laws_toDisk.f k l0_0 l0_1).bind fun bt269 => ((impl_TreeOk.f bt269.1 bt269.2 a1).bind fun t276 => (if (t276 != t268) = true then (none) else ((laws_toDisk.f k l0_0 l0_1).bind fun bt277 => ((laws_eqDisk.f k bt269.1 bt269.2 bt277.1 bt277.2).bind fun t283 => (if t283 = true then (some true) else (none)))))))))) = some r := H
 have A3 := Aside0.mk A30
 clear A30
 by_cases c4 : t261 < 0
 ·rw [if_pos c4] at H
  have c4b0 : decide (t261 < 0) = true := decide_eq_true c4
  clear c4
  obtain rfl := Option.some.inj H
  go_enter Try.func6, Try.ntmps6
  go_wp2_with (first | ((with_reducible refine gate_dst (N := 2) rfl ?_); refine box_event ?hg (N := 2) ?hd (cs := #[.slice A0_0 l0_0.length c0_0, .slice A0_1 l0_1.length c0_1]) (t := 25) ?hr ?_; (case hd => rfl); (case hg => rfl); (case hr => first | (go_simp; done) | (go_simp; rfl)); intro gb260 hg w5 hbox hb; have n0_ := Aside0.mk (below_step (by repeat (first | (with_reducible first | exact HB.out | apply below_alloc | apply pw_below_drewN | apply below_drew1) | exact HB.out)) hb); have n1_ := Aside0.mk (hbox); have n2_ := Aside0.mk ((by rw [hg]; exact (below_size (by repeat (first | (with_reducible first | exact HB.out | apply below_alloc | apply pw_below_drewN | apply below_drew1) | exact HB.out))) : w.heap.size ≤ gb260)); have n3_ := Aside0.mk ((by rw [hg]; exact (below_size (by repeat (first | (with_reducible first | exact HB.out | apply below_alloc | apply pw_below_drewN | apply below_drew1) | exact HB.out))) : w.heap.size ≤ gb260)); clear HB; have HB := n0_; have BK260 := n1_; have GW260 := n2_; have GE260 := n3_; clear n0_ n1_ n2_ n3_; clear hb hbox hg; have hcz6_0 : w5.cell? ⟨gb260, 0, none⟩ = some (.slice A0_0 l0_0.length c0_0) := (blk_cell BK260.out 0).trans rfl; have hcz6_1 : w5.cell? ⟨gb260, 1, none⟩ = some (.slice A0_1 l0_1.length c0_1) := (blk_cell BK260.out 1).trans rfl; have hfz6_0 := blk_frozen BK260.out 0; have hfz6_1 := blk_frozen BK260.out 1) | ((with_reducible refine gate_callee (f := 36) rfl ?_); refine goesL_ (some 11) rfl rfl Try.func36 (by kernel_rfl) rfl #[.agg #[.slice A0_0 l0_0.length c0_0, .slice A0_1 l0_1.length c0_1], .int .i64 1048576] rfl (by (try simp only [List.map_toArray, List.map_cons, List.map_nil]); first | done | rfl | (simp only [List.length_drop, List.length_take]; rfl)) ?_; (with_reducible refine (laws_szDisk.calls k _ _ l0_0 _ _ l0_1 1048576 t261 _ ?side1 ?side2 ?side3 ?side4 A3.out).mono ?_); (case side1 => repeat (first | exact (Kd.C_below HR0_0.out HB.out) | (with_reducible refine Kd.C_alloc ?_ _) | (with_reducible refine Kd.C_drewN ?_ _) | (with_reducible refine Kd.C_drew ?_))); (case side2 => exact HC0_0.out); (case side3 => repeat (first | exact (Kd.C_below HR0_1.out HB.out) | (with_reducible refine Kd.C_alloc ?_ _) | (with_reducible refine Kd.C_drewN ?_ _) | (with_reducible refine Kd.C_drew ?_))); (case side4 => exact HC0_1.out); rintro e w7 ⟨rfl, hb⟩; refine ⟨_, rfl, ?_⟩; have n0_ := Aside0.mk (blk_below (g := gb260) (o := .cells #[.slice A0_0 l0_0.length c0_0, .slice A0_1 l0_1.length c0_1] 25 (0, 0)) (by (with_reducible repeat (first | refine blk_drewN ?_ _ | refine blk_drew ?_ | refine blk_alloc ?_ _)); exact BK260.out) hb); have n1_ := Aside0.mk (below_step (by repeat (first | (with_reducible first | exact HB.out | apply below_alloc | apply pw_below_drewN | apply below_drew1 | refine below_set ?_ GE260.out) | exact HB.out)) hb); clear BK260; clear HB; have BK260 := n0_; have HB := n1_; clear n0_ n1_; (try clear hb); (try clear hb2); (try clear hk); (try clear hi)))
  go_ret
  exact ⟨by first | rfl | (simp [errW_none, errW_some] <;> rfl) | (simp [*, errW_none, errW_some] <;> rfl), by repeat (first | (with_reducible first | exact HB.out | apply below_alloc | apply pw_below_drewN | apply below_drew1 | refine below_set ?_ GE260.out) | exact HB.out)⟩
 ·rw [if_neg c4] at H
  have c4b0 : decide (t261 < 0) = false := decide_eq_false c4
  clear c4
  replace H := Option.bind_eq_some_iff.mp H
  obtain ⟨⟨t262, t265⟩, A80, H⟩ := H
  replace H : ((spec_TreeOk.f t262 t265 a1).bind fun t268 => ((laws_toDisk.f k l0_0 l0_1).bind fun bt269 => ((impl_TreeOk.f bt269.1 bt269.2 a1).bind fun t276 => (if (t276 != t268) = true then (none) else ((laws_toDisk.f k l0_0 l0_1).bind fun bt277 => ((laws_eqDisk.f k bt269.1 bt269.2 bt277.1 bt277.2).bind fun t283 => (if t283 = true then (some true) else (none)))))))) = some r := H
  have A8 := Aside0.mk A80
  clear A80
  replace H := Option.bind_eq_some_iff.mp H
  obtain ⟨t268, A90, H⟩ := H
  replace H : ((laws_toDisk.f k l0_0 l0_1).bind fun bt269 => ((impl_TreeOk.f bt269.1 bt269.2 a1).bind fun t276 => (if (t276 != t268) = true then (none) else ((laws_toDisk.f k l0_0 l0_1).bind fun bt277 => ((laws_eqDisk.f k bt269.1 bt269.2 bt277.1 bt277.2).bind fun t283 => (if t283 = true then (some true) else (none))))))) = some r := H
  have A9 := Aside0.mk A90
  clear A90
  replace H := Option.bind_eq_some_iff.mp H
  obtain ⟨⟨t269, t272⟩, A100, H⟩ := H
  replace H : ((impl_TreeOk.f t269 t272 a1).bind fun t276 => (if (t276 != t268) = true then (none) else ((laws_toDisk.f k l0_0 l0_1).bind fun bt277 => ((laws_eqDisk.f k t269 t272 bt277.1 bt277.2).bind fun t283 => (if t283 = true then (some true) else (none)))))) = some r := H
  have A10 := Aside0.mk A100
  clear A100
  replace H := Option.bind_eq_some_iff.mp H
  obtain ⟨t276, A110, H⟩ := H
  replace H : (if (t276 != t268) = true then (none) else ((laws_toDisk.f k l0_0 l0_1).bind fun bt277 => ((laws_eqDisk.f k t269 t272 bt277.1 bt277.2).bind fun t283 => (if t283 = true then (some true) else (none))))) = some r := H
  have A11 := Aside0.mk A110
  clear A110
  by_cases c12 : (t276 != t268) = true
  ·rw [if_pos c12] at H
   exact absurd H (by simp)
  ·rw [if_neg c12] at H
   have c12b0 : (t276 != t268) = false := by simpa using c12
   (try (have c12b1 : decide (t276 = t268) = true := by simpa using c12))
   (try (have c12b2 : (t276 == t268) = true := by simpa using c12))
   clear c12
   replace H := Option.bind_eq_some_iff.mp H
   obtain ⟨⟨t277, t280⟩, A130, H⟩ := H
   replace H : ((laws_eqDisk.f k t269 t272 t277 t280).bind fun t283 => (if t283 = true then (some true) else (none))) = some r := H
   have A13 := Aside0.mk A130
   clear A130
   replace H := Option.bind_eq_some_iff.mp H
   obtain ⟨t283, A140, H⟩ := H
   replace H : (if t283 = true then (some true) else (none)) = some r := H
   have A14 := Aside0.mk A140
   clear A140
   by_cases c15 : t283 = true
   ·subst c15
    have H1 : (some true) = some r := by rw [if_pos rfl] at H; exact H
    clear H
    have H := H1
    clear H1
    obtain rfl := Option.some.inj H
    go_enter Try.func6, Try.ntmps6
    try go_wp2_with (first | ((with_reducible refine gate_dst (N := 2) rfl ?_); refine box_event ?hg (N := 2) ?hd (cs := #[.slice A0_0 l0_0.length c0_0, .slice A0_1 l0_1.length c0_1]) (t := 25) ?hr ?_; (case hd => rfl); (case hg => rfl); (case hr => first | (go_simp; done) | (go_simp; rfl)); intro gb260 hg w16 hbox hb; have n0_ := Aside0.mk (below_step (by repeat (first | (with_reducible first | exact HB.out | apply below_alloc | apply pw_below_drewN | apply below_drew1) | exact HB.out)) hb); have n1_ := Aside0.mk (hbox); have n2_ := Aside0.mk ((by rw [hg]; exact (below_size (by repeat (first | (with_reducible first | exact HB.out | apply below_alloc | apply pw_below_drewN | apply below_drew1) | exact HB.out))) : w.heap.size ≤ gb260)); have n3_ := Aside0.mk ((by rw [hg]; exact (below_size (by repeat (first | (with_reducible first | exact HB.out | apply below_alloc | apply pw_below_drewN | apply below_drew1) | exact HB.out))) : w.heap.size ≤ gb260)); clear HB; have HB := n0_; have BK260 := n1_; have GW260 := n2_; have GE260 := n3_; clear n0_ n1_ n2_ n3_; clear hb hbox hg; have hcz17_0 : w16.cell? ⟨gb260, 0, none⟩ = some (.slice A0_0 l0_0.length c0_0) := (blk_cell BK260.out 0).trans rfl; have hcz17_1 : w16.cell? ⟨gb260, 1, none⟩ = some (.slice A0_1 l0_1.length c0_1) := (blk_cell BK260.out 1).trans rfl; have hfz17_0 := blk_frozen BK260.out 0; have hfz17_1 := blk_frozen BK260.out 1) | ((with_reducible refine gate_callee (f := 36) rfl ?_); refine goesL_ (some 11) rfl rfl Try.func36 (by kernel_rfl) rfl #[.agg #[.slice A0_0 l0_0.length c0_0, .slice A0_1 l0_1.length c0_1], .int .i64 1048576] rfl (by (try simp only [List.map_toArray, List.map_cons, List.map_nil]); first | done | rfl | (simp only [List.length_drop, List.length_take]; rfl)) ?_; (with_reducible refine (laws_szDisk.calls k _ _ l0_0 _ _ l0_1 1048576 t261 _ ?side1 ?side2 ?side3 ?side4 A3.out).mono ?_); (case side1 => repeat (first | exact (Kd.C_below HR0_0.out HB.out) | (with_reducible refine Kd.C_alloc ?_ _) | (with_reducible refine Kd.C_drewN ?_ _) | (with_reducible refine Kd.C_drew ?_))); (case side2 => exact HC0_0.out); (case side3 => repeat (first | exact (Kd.C_below HR0_1.out HB.out) | (with_reducible refine Kd.C_alloc ?_ _) | (with_reducible refine Kd.C_drewN ?_ _) | (with_reducible refine Kd.C_drew ?_))); (case side4 => exact HC0_1.out); rintro e w18 ⟨rfl, hb⟩; refine ⟨_, rfl, ?_⟩; have n0_ := Aside0.mk (blk_below (g := gb260) (o := .cells #[.slice A0_0 l0_0.length c0_0, .slice A0_1 l0_1.length c0_1] 25 (0, 0)) (by (with_reducible repeat (first | refine blk_drewN ?_ _ | refine blk_drew ?_ | refine blk_alloc ?_ _)); exact BK260.out) hb); have n1_ := Aside0.mk (below_step (by repeat (first | (with_reducible first | exact HB.out | apply below_alloc | apply pw_below_drewN | apply below_drew1 | refine below_set ?_ GE260.out) | exact HB.out)) hb); clear BK260; clear HB; have BK260 := n0_; have HB := n1_; clear n0_ n1_; (try clear hb); (try clear hb2); (try clear hk); (try clear hi); have hcz19_0 : w18.cell? ⟨gb260, 0, none⟩ = some (.slice A0_0 l0_0.length c0_0) := (blk_cell BK260.out 0).trans rfl; have hcz19_1 : w18.cell? ⟨gb260, 1, none⟩ = some (.slice A0_1 l0_1.length c0_1) := (blk_cell BK260.out 1).trans rfl; have hfz19_0 := blk_frozen BK260.out 0; have hfz19_1 := blk_frozen BK260.out 1) | ((with_reducible refine gate_callee (f := 38) rfl ?_); refine goesL_ (some 15) rfl rfl Try.func38 (by kernel_rfl) rfl #[.agg #[.slice A0_0 l0_0.length c0_0, .slice A0_1 l0_1.length c0_1]] rfl (by (try simp only [List.map_toArray, List.map_cons, List.map_nil]); first | done | rfl | (simp only [List.length_drop, List.length_take]; rfl)) ?_; (with_reducible refine (laws_toDisk.calls k _ _ l0_0 _ _ l0_1 t262 t265 _ ?side1 ?side2 ?side3 ?side4 A8.out).mono ?_); (case side1 => repeat (first | exact (Kd.C_below HR0_0.out HB.out) | (with_reducible refine Kd.C_alloc ?_ _) | (with_reducible refine Kd.C_drewN ?_ _) | (with_reducible refine Kd.C_drew ?_))); (case side2 => exact HC0_0.out); (case side3 => repeat (first | exact (Kd.C_below HR0_1.out HB.out) | (with_reducible refine Kd.C_alloc ?_ _) | (with_reducible refine Kd.C_drewN ?_ _) | (with_reducible refine Kd.C_drew ?_))); (case side4 => exact HC0_1.out); rintro e w20 ⟨v263, v266, rfl, ho0, ho1, hb⟩; refine ⟨_, rfl, ?_⟩; (first | have rs_v263 := one_store (P := Try.prog) ho0 | have rs_v263 := one_store (P := Try.prog) (Kd.S_R ho0) | skip); (first | have rs_v266 := one_store (P := Try.prog) ho1 | have rs_v266 := one_store (P := Try.prog) (Kd.S_R ho1) | skip); have n0_ := Aside0.mk (Kd.R_lower ho0 (below_size (by repeat (first | (with_reducible first | exact HB.out | apply below_alloc | apply pw_below_drewN | apply below_drew1 | refine below_set ?_ GE260.out) | exact HB.out)))); have n1_ := Aside0.mk (Kd.R_lower ho1 (below_size (by repeat (first | (with_reducible first | exact HB.out | apply below_alloc | apply pw_below_drewN | apply below_drew1 | refine below_set ?_ GE260.out) | exact HB.out)))); have n2_ := Aside0.mk (blk_below (g := gb260) (o := .cells #[.slice A0_0 l0_0.length c0_0, .slice A0_1 l0_1.length c0_1] 25 (0, 0)) (by (with_reducible repeat (first | refine blk_drewN ?_ _ | refine blk_drew ?_ | refine blk_alloc ?_ _)); exact BK260.out) hb); have n3_ := Aside0.mk (below_step (by repeat (first | (with_reducible first | exact HB.out | apply below_alloc | apply pw_below_drewN | apply below_drew1 | refine below_set ?_ GE260.out) | exact HB.out)) hb); clear BK260; clear HB; have HO264 := n0_; have HO267 := n1_; have BK260 := n2_; have HB := n3_; clear n0_ n1_ n2_ n3_; (try clear hb); (try clear hb2); (try clear hk); (try clear hi); (try clear ho0); (try clear ho1); obtain ⟨Ao21, co21, eo21⟩ := Kd.R_slice HO264.out; subst eo21; obtain ⟨Ao22, co22, eo22⟩ := Kd.R_slice HO267.out; subst eo22) | ((with_reducible refine gate_callee (f := 37) rfl ?_); refine goesL_ (some 17) rfl rfl Try.func37 (by kernel_rfl) rfl #[.agg #[.slice Ao21 t262.length co21, .slice Ao22 t265.length co22], .int .i64 a1] rfl (by (try simp only [List.map_toArray, List.map_cons, List.map_nil]); first | done | rfl | (simp only [List.length_drop, List.length_take]; rfl)) ?_; (with_reducible refine (spec_TreeOk.calls _ _ t262 _ _ t265 a1 t268 _ ?side1 ?side2 ?side3 ?side4 A9.out).mono ?_); (case side1 => repeat (first | exact (Kd.R_reads' HO264.out).2.2 | (with_reducible refine Kd.C_alloc ?_ _) | (with_reducible refine Kd.C_drewN ?_ _) | (with_reducible refine Kd.C_drew ?_))); (case side2 => exact (Kd.R_reads' HO264.out).2.1); (case side3 => repeat (first | exact (Kd.R_reads' HO267.out).2.2 | (with_reducible refine Kd.C_alloc ?_ _) | (with_reducible refine Kd.C_drewN ?_ _) | (with_reducible refine Kd.C_drew ?_))); (case side4 => exact (Kd.R_reads' HO267.out).2.1); rintro e w23 ⟨rfl, hb⟩; refine ⟨_, rfl, ?_⟩; have n0_ := Aside0.mk (Kd.R_below (by (with_reducible repeat (first | apply Kd.R_alloc | apply Kd.R_drewN | apply Kd.R_drew)); exact HO264.out) hb); have n1_ := Aside0.mk (Kd.R_below (by (with_reducible repeat (first | apply Kd.R_alloc | apply Kd.R_drewN | apply Kd.R_drew)); exact HO267.out) hb); have n2_ := Aside0.mk (blk_below (g := gb260) (o := .cells #[.slice A0_0 l0_0.length c0_0, .slice A0_1 l0_1.length c0_1] 25 (0, 0)) (by (with_reducible repeat (first | refine blk_drewN ?_ _ | refine blk_drew ?_ | refine blk_alloc ?_ _)); exact BK260.out) hb); have n3_ := Aside0.mk (below_step (by repeat (first | (with_reducible first | exact HB.out | apply below_alloc | apply pw_below_drewN | apply below_drew1 | refine below_set ?_ GE260.out) | exact HB.out)) hb); clear HO264; clear HO267; clear BK260; clear HB; have HO264 := n0_; have HO267 := n1_; have BK260 := n2_; have HB := n3_; clear n0_ n1_ n2_ n3_; (try clear hb); (try clear hb2); (try clear hk); (try clear hi); have hcz24_0 : w23.cell? ⟨gb260, 0, none⟩ = some (.slice A0_0 l0_0.length c0_0) := (blk_cell BK260.out 0).trans rfl; have hcz24_1 : w23.cell? ⟨gb260, 1, none⟩ = some (.slice A0_1 l0_1.length c0_1) := (blk_cell BK260.out 1).trans rfl; have hfz24_0 := blk_frozen BK260.out 0; have hfz24_1 := blk_frozen BK260.out 1) | ((with_reducible refine gate_callee (f := 38) rfl ?_); refine goesL_ (some 19) rfl rfl Try.func38 (by kernel_rfl) rfl #[.agg #[.slice A0_0 l0_0.length c0_0, .slice A0_1 l0_1.length c0_1]] rfl (by (try simp only [List.map_toArray, List.map_cons, List.map_nil]); first | done | rfl | (simp only [List.length_drop, List.length_take]; rfl)) ?_; (with_reducible refine (laws_toDisk.calls k _ _ l0_0 _ _ l0_1 t269 t272 _ ?side1 ?side2 ?side3 ?side4 A10.out).mono ?_); (case side1 => repeat (first | exact (Kd.C_below HR0_0.out HB.out) | (with_reducible refine Kd.C_alloc ?_ _) | (with_reducible refine Kd.C_drewN ?_ _) | (with_reducible refine Kd.C_drew ?_))); (case side2 => exact HC0_0.out); (case side3 => repeat (first | exact (Kd.C_below HR0_1.out HB.out) | (with_reducible refine Kd.C_alloc ?_ _) | (with_reducible refine Kd.C_drewN ?_ _) | (with_reducible refine Kd.C_drew ?_))); (case side4 => exact HC0_1.out); rintro e w25 ⟨v270, v273, rfl, ho0, ho1, hb⟩; refine ⟨_, rfl, ?_⟩; (first | have rs_v270 := one_store (P := Try.prog) ho0 | have rs_v270 := one_store (P := Try.prog) (Kd.S_R ho0) | skip); (first | have rs_v273 := one_store (P := Try.prog) ho1 | have rs_v273 := one_store (P := Try.prog) (Kd.S_R ho1) | skip); have n0_ := Aside0.mk (Kd.R_elder' (by (with_reducible repeat (first | apply Kd.R_alloc | apply Kd.R_drewN | apply Kd.R_drew)); exact HO264.out) (Kd.R_base ho0) hb); have n1_ := Aside0.mk (Kd.R_elder' (by (with_reducible repeat (first | apply Kd.R_alloc | apply Kd.R_drewN | apply Kd.R_drew)); exact HO267.out) (Kd.R_base ho1) hb); have n2_ := Aside0.mk (Kd.R_lower (Kd.R_new' ho0 (Kd.R_lt (by (with_reducible repeat (first | apply Kd.R_alloc | apply Kd.R_drewN | apply Kd.R_drew)); exact HO264.out))) (below_size (by repeat (first | (with_reducible first | exact HB.out | apply below_alloc | apply pw_below_drewN | apply below_drew1 | refine below_set ?_ GE260.out) | exact HB.out)))); have n3_ := Aside0.mk (Kd.R_lower (Kd.R_new' ho1 (Kd.R_lt (by (with_reducible repeat (first | apply Kd.R_alloc | apply Kd.R_drewN | apply Kd.R_drew)); exact HO267.out))) (below_size (by repeat (first | (with_reducible first | exact HB.out | apply below_alloc | apply pw_below_drewN | apply below_drew1 | refine below_set ?_ GE260.out) | exact HB.out)))); have n4_ := Aside0.mk (blk_below (g := gb260) (o := .cells #[.slice A0_0 l0_0.length c0_0, .slice A0_1 l0_1.length c0_1] 25 (0, 0)) (by (with_reducible repeat (first | refine blk_drewN ?_ _ | refine blk_drew ?_ | refine blk_alloc ?_ _)); exact BK260.out) hb); have n5_ := Aside0.mk (below_step (by repeat (first | (with_reducible first | exact HB.out | apply below_alloc | apply pw_below_drewN | apply below_drew1 | refine below_set ?_ GE260.out) | exact HB.out)) hb); clear HO264; clear HO267; clear BK260; clear HB; have HO264 := n0_; have HO267 := n1_; have HO271 := n2_; have HO274 := n3_; have BK260 := n4_; have HB := n5_; clear n0_ n1_ n2_ n3_ n4_ n5_; (try clear hb); (try clear hb2); (try clear hk); (try clear hi); (try clear ho0); (try clear ho1)) | ((with_reducible refine gate_dst (N := 7) rfl ?_); refine box_event ?hg (N := 7) ?hd (cs := #[.slice none 0 0, .slice none 0 0]) (t := 41) ?hr ?_; (case hd => rfl); (case hg => rfl); (case hr => first | (go_simp; done) | (go_simp; rfl)); intro gb275 hg w26 hbox hb; have n0_ := Aside0.mk (Kd.R_below (by (with_reducible repeat (first | apply Kd.R_alloc | apply Kd.R_drewN | apply Kd.R_drew)); exact HO264.out) hb); have n1_ := Aside0.mk (Kd.R_below (by (with_reducible repeat (first | apply Kd.R_alloc | apply Kd.R_drewN | apply Kd.R_drew)); exact HO267.out) hb); have n2_ := Aside0.mk (Kd.R_below (by (with_reducible repeat (first | apply Kd.R_alloc | apply Kd.R_drewN | apply Kd.R_drew)); exact HO271.out) hb); have n3_ := Aside0.mk (Kd.R_below (by (with_reducible repeat (first | apply Kd.R_alloc | apply Kd.R_drewN | apply Kd.R_drew)); exact HO274.out) hb); have n4_ := Aside0.mk (blk_below (g := gb260) (o := .cells #[.slice A0_0 l0_0.length c0_0, .slice A0_1 l0_1.length c0_1] 25 (0, 0)) (by (with_reducible repeat (first | refine blk_drewN ?_ _ | refine blk_drew ?_ | refine blk_alloc ?_ _)); exact BK260.out) hb); have n5_ := Aside0.mk (below_step (by repeat (first | (with_reducible first | exact HB.out | apply below_alloc | apply pw_below_drewN | apply below_drew1 | refine below_set ?_ GE260.out) | exact HB.out)) hb); have n6_ := Aside0.mk (hbox); have n7_ := Aside0.mk ((by rw [hg]; exact (below_size (by repeat (first | (with_reducible first | exact HB.out | apply below_alloc | apply pw_below_drewN | apply below_drew1 | refine below_set ?_ GE260.out) | exact HB.out))) : w.heap.size ≤ gb275)); have n8_ := Aside0.mk ((by rw [hg]; exact (below_size (by repeat (first | (with_reducible first | exact HB.out | apply below_alloc | apply pw_below_drewN | apply below_drew1 | refine below_set ?_ GE260.out) | exact HB.out))) : w.heap.size ≤ gb275)); have n9_ := Aside0.mk ((by rw [hg]; exact Nat.ne_of_lt (blk_lt (g := gb260) (o := .cells #[.slice A0_0 l0_0.length c0_0, .slice A0_1 l0_1.length c0_1] 25 (0, 0)) (by (with_reducible repeat (first | refine blk_drewN ?_ _ | refine blk_drew ?_ | refine blk_alloc ?_ _)); exact BK260.out)) : gb260 ≠ gb275)); have n10_ := Aside0.mk ((by rw [hg]; exact Nat.ne_of_gt (blk_lt (g := gb260) (o := .cells #[.slice A0_0 l0_0.length c0_0, .slice A0_1 l0_1.length c0_1] 25 (0, 0)) (by (with_reducible repeat (first | refine blk_drewN ?_ _ | refine blk_drew ?_ | refine blk_alloc ?_ _)); exact BK260.out)) : gb275 ≠ gb260)); clear HO264; clear HO267; clear HO271; clear HO274; clear BK260; clear HB; have HO264 := n0_; have HO267 := n1_; have HO271 := n2_; have HO274 := n3_; have BK260 := n4_; have HB := n5_; have BK275 := n6_; have GW275 := n7_; have GE275 := n8_; have NB260_275 := n9_; have NB275_260 := n10_; clear n0_ n1_ n2_ n3_ n4_ n5_ n6_ n7_ n8_ n9_ n10_; clear hb hbox hg; obtain ⟨Ao27, co27, eo27⟩ := Kd.R_slice HO271.out; subst eo27; have hnb28 := NB275_260.out; have hnc28 := NB260_275.out; have hcz29_0 : w26.cell? ⟨gb275, 0, none⟩ = some (.slice none 0 0) := (blk_cell BK275.out 0).trans rfl; have hcz29_1 : w26.cell? ⟨gb275, 1, none⟩ = some (.slice none 0 0) := (blk_cell BK275.out 1).trans rfl; have hfz29_0 := blk_frozen BK275.out 0; have hfz29_1 := blk_frozen BK275.out 1; obtain ⟨Ao30, co30, eo30⟩ := Kd.R_slice HO274.out; subst eo30) | ((with_reducible refine gate_callee (f := 39) rfl ?_); refine goesL_ (some 22) rfl rfl Try.func39 (by kernel_rfl) rfl #[.agg #[.slice Ao27 t269.length co27, .slice Ao30 t272.length co30], .int .i64 a1] rfl (by (try simp only [List.map_toArray, List.map_cons, List.map_nil]); first | done | rfl | (simp only [List.length_drop, List.length_take]; rfl)) ?_; (with_reducible refine (impl_TreeOk.calls _ _ t269 _ _ t272 a1 t276 _ ?side1 ?side2 ?side3 ?side4 A11.out).mono ?_); (case side1 => refine (Kd.R_reads' (e := 9) (base := w.heap.size) (ok := fun k_ => (True ∧ some k_ ≠ (.slice Ao21 t262.length co21 : Value).ownBlock)) (n := t269.length) (c := co27) ?_).2.2; exact (by (with_reducible repeat (first | apply Kd.R_alloc | apply Kd.R_drewN | apply Kd.R_drew)); exact (Kd.R_mono (Kd.R_far (p := ⟨gb275, 1, none⟩) (Kd.R_far (p := ⟨gb275, 0, none⟩) (Kd.R_types HO271.out BK275.out (by decide)) (fun _ hk => hk.2) (.slice Ao27 t269.length co27)) (fun _ hk => hk.2) (.slice Ao30 t272.length co30)) (fun _ h_ => h_.1)))); (case side2 => exact (Kd.R_reads' HO271.out).2.1); (case side3 => refine (Kd.R_reads' (e := 189) (base := w.heap.size) (ok := fun k_ => (True ∧ some k_ ≠ (.slice Ao22 t265.length co22 : Value).ownBlock)) (n := t272.length) (c := co30) ?_).2.2; exact (by (with_reducible repeat (first | apply Kd.R_alloc | apply Kd.R_drewN | apply Kd.R_drew)); exact (Kd.R_mono (Kd.R_far (p := ⟨gb275, 1, none⟩) (Kd.R_far (p := ⟨gb275, 0, none⟩) (Kd.R_types HO274.out BK275.out (by decide)) (fun _ hk => hk.2) (.slice Ao27 t269.length co27)) (fun _ hk => hk.2) (.slice Ao30 t272.length co30)) (fun _ h_ => h_.1)))); (case side4 => exact (Kd.R_reads' HO274.out).2.1); rintro e w31 ⟨rfl, hb⟩; refine ⟨_, rfl, ?_⟩; have n0_ := Aside0.mk (Kd.R_below (by (with_reducible repeat (first | apply Kd.R_alloc | apply Kd.R_drewN | apply Kd.R_drew)); exact (Kd.R_mono (Kd.R_far (p := ⟨gb275, 1, none⟩) (Kd.R_far (p := ⟨gb275, 0, none⟩) (Kd.R_types HO264.out BK275.out (by decide)) (fun _ hk => hk.2) (.slice Ao27 t269.length co27)) (fun _ hk => hk.2) (.slice Ao30 t272.length co30)) (fun _ h_ => h_.1))) hb); have n1_ := Aside0.mk (Kd.R_below (by (with_reducible repeat (first | apply Kd.R_alloc | apply Kd.R_drewN | apply Kd.R_drew)); exact (Kd.R_mono (Kd.R_far (p := ⟨gb275, 1, none⟩) (Kd.R_far (p := ⟨gb275, 0, none⟩) (Kd.R_types HO267.out BK275.out (by decide)) (fun _ hk => hk.2) (.slice Ao27 t269.length co27)) (fun _ hk => hk.2) (.slice Ao30 t272.length co30)) (fun _ h_ => h_.1))) hb); have n2_ := Aside0.mk (Kd.R_below (by (with_reducible repeat (first | apply Kd.R_alloc | apply Kd.R_drewN | apply Kd.R_drew)); exact (Kd.R_mono (Kd.R_far (p := ⟨gb275, 1, none⟩) (Kd.R_far (p := ⟨gb275, 0, none⟩) (Kd.R_types HO271.out BK275.out (by decide)) (fun _ hk => hk.2) (.slice Ao27 t269.length co27)) (fun _ hk => hk.2) (.slice Ao30 t272.length co30)) (fun _ h_ => h_.1))) hb); have n3_ := Aside0.mk (Kd.R_below (by (with_reducible repeat (first | apply Kd.R_alloc | apply Kd.R_drewN | apply Kd.R_drew)); exact (Kd.R_mono (Kd.R_far (p := ⟨gb275, 1, none⟩) (Kd.R_far (p := ⟨gb275, 0, none⟩) (Kd.R_types HO274.out BK275.out (by decide)) (fun _ hk => hk.2) (.slice Ao27 t269.length co27)) (fun _ hk => hk.2) (.slice Ao30 t272.length co30)) (fun _ h_ => h_.1))) hb); have n4_ := Aside0.mk (blk_below (g := gb260) (o := .cells #[.slice A0_0 l0_0.length c0_0, .slice A0_1 l0_1.length c0_1] 25 (0, 0)) (by (with_reducible repeat (first | refine blk_drewN ?_ _ | refine blk_drew ?_ | refine blk_alloc ?_ _)); refine blk_far ?_ NB260_275.out _; (with_reducible repeat (first | refine blk_drewN ?_ _ | refine blk_drew ?_ | refine blk_alloc ?_ _)); refine blk_far ?_ NB260_275.out _; (with_reducible repeat (first | refine blk_drewN ?_ _ | refine blk_drew ?_ | refine blk_alloc ?_ _)); exact BK260.out) hb); have n5_ := Aside0.mk (blk_below (g := gb275) (o := .cells #[.slice Ao27 t269.length co27, .slice Ao30 t272.length co30] 41 (0, 0)) (by (with_reducible repeat (first | refine blk_drewN ?_ _ | refine blk_drew ?_ | refine blk_alloc ?_ _)); refine blk_put (cs := #[.slice Ao27 t269.length co27, .slice none 0 0]) ?_ 1 _ rfl; (with_reducible repeat (first | refine blk_drewN ?_ _ | refine blk_drew ?_ | refine blk_alloc ?_ _)); refine blk_put (cs := #[.slice none 0 0, .slice none 0 0]) ?_ 0 _ rfl; (with_reducible repeat (first | refine blk_drewN ?_ _ | refine blk_drew ?_ | refine blk_alloc ?_ _)); exact BK275.out) hb); have n6_ := Aside0.mk (below_step (by repeat (first | (with_reducible first | exact HB.out | apply below_alloc | apply pw_below_drewN | apply below_drew1 | refine below_set ?_ GE260.out | refine below_set ?_ GE275.out) | exact HB.out)) hb); clear HO264; clear HO267; clear HO271; clear HO274; clear BK260; clear BK275; clear HB; have HO264 := n0_; have HO267 := n1_; have HO271 := n2_; have HO274 := n3_; have BK260 := n4_; have BK275 := n5_; have HB := n6_; clear n0_ n1_ n2_ n3_ n4_ n5_ n6_; (try clear hb); (try clear hb2); (try clear hk); (try clear hi)))
    have n0_ := Aside0.mk (Kd.R_drew HO264.out)
    have n1_ := Aside0.mk (Kd.R_drew HO267.out)
    have n2_ := Aside0.mk (Kd.R_drew HO271.out)
    have n3_ := Aside0.mk (Kd.R_drew HO274.out)
    have n4_ := Aside0.mk (blk_drew BK260.out)
    have n5_ := Aside0.mk (blk_drew BK275.out)
    have n6_ := Aside0.mk (below_drew1 HB.out)
    clear HO264
    clear HO267
    clear HO271
    clear HO274
    clear BK260
    clear BK275
    clear HB
    have HO264 := n0_
    have HO267 := n1_
    have HO271 := n2_
    have HO274 := n3_
    have BK260 := n4_
    have BK275 := n5_
    have HB := n6_
    clear n0_ n1_ n2_ n3_ n4_ n5_ n6_
    refine start_ (n := 5) (S := fun w' => w'.cell? ⟨gb275, 0, none⟩ = some (.slice Ao27 t269.length co27) ∧ w'.cell? ⟨gb275, 1, none⟩ = some (.slice Ao30 t272.length co30) ∧ w'.cell? ⟨gb260, 0, none⟩ = some (.slice A0_0 l0_0.length c0_0) ∧ w'.cell? ⟨gb260, 1, none⟩ = some (.slice A0_1 l0_1.length c0_1)) (ds := []) #[false, false, false, false, false] (by kernel_rfl) rfl rfl ⟨(blk_cell BK275.out 0).trans rfl, (blk_cell BK275.out 1).trans rfl, (blk_cell BK260.out 0).trans rfl, (blk_cell BK260.out 1).trans rfl⟩ (fun hHeld => ?_)
    generalize w31.drew = w32 at HO264 HO267 HO271 HO274 BK260 BK275 HB hHeld ⊢
    refine take_ (i := 0) (N := some 26) (v := ?_) (a' := ?_) #[true, false, false, false, false] rfl rfl (by kernel_rfl) (fun _ _ _ h => h) (Or.inl ⟨by rfl, ?_⟩) hHeld ?_ ?_
    rotate_left
    ·rintro w' ⟨s0, s1, s2, s3⟩
     go_simp
     with_reducible rfl
    rotate_left
    ·simp only [Act.put, List.setIfInBounds_toArray, List.set_cons_zero, List.set_cons_succ, i64_w, i32_w]
     rfl
    refine take_ (i := 1) (N := some 27) (v := ?_) (a' := ?_) #[true, true, false, false, false] rfl rfl (by kernel_rfl) (fun _ _ _ h => h) (Or.inl ⟨by rfl, ?_⟩) hHeld ?_ ?_
    rotate_left
    ·rintro w' ⟨s0, s1, s2, s3⟩
     go_simp
     with_reducible rfl
    rotate_left
    ·simp only [Act.put, List.setIfInBounds_toArray, List.set_cons_zero, List.set_cons_succ, i64_w, i32_w]
     rfl
    refine one_ (i := 2) (N := some 28) #[true, true, true, false, false] rfl rfl (by kernel_rfl) (by decide) (fun K hK => ?_)
    refine goes_ Try.func38 (by kernel_rfl) rfl #[.agg #[.slice A0_0 l0_0.length c0_0, .slice A0_1 l0_1.length c0_1]] (by rfl) rfl rfl (by (try simp only [List.map_toArray, List.map_cons, List.map_nil]); first | done | rfl | (simp only [List.length_drop, List.length_take]; rfl)) ?_
    with_reducible refine (laws_toDisk.calls k _ _ l0_0 _ _ l0_1 t277 t280 _ ?side1 ?side2 ?side3 ?side4 A13.out).mono ?_
    (case side1 => repeat (first | exact (Kd.C_below HR0_0.out HB.out) | (with_reducible refine Kd.C_alloc ?_ _) | (with_reducible refine Kd.C_drewN ?_ _) | (with_reducible refine Kd.C_drew ?_)))
    (case side2 => exact HC0_0.out)
    (case side3 => repeat (first | exact (Kd.C_below HR0_1.out HB.out) | (with_reducible refine Kd.C_alloc ?_ _) | (with_reducible refine Kd.C_drewN ?_ _) | (with_reducible refine Kd.C_drew ?_)))
    (case side4 => exact HC0_1.out)
    rintro e w33 ⟨v278, v281, rfl, ho0, ho1, hb⟩
    refine ⟨_, rfl, ?_⟩
    have n0_ := Aside0.mk (Kd.R_elder' (by (with_reducible repeat (first | apply Kd.R_alloc | apply Kd.R_drewN | apply Kd.R_drew)); exact HO264.out) (Kd.R_base ho0) hb)
    have n1_ := Aside0.mk (Kd.R_elder' (by (with_reducible repeat (first | apply Kd.R_alloc | apply Kd.R_drewN | apply Kd.R_drew)); exact HO267.out) (Kd.R_base ho1) hb)
    have n2_ := Aside0.mk (Kd.R_elder' (by (with_reducible repeat (first | apply Kd.R_alloc | apply Kd.R_drewN | apply Kd.R_drew)); exact HO271.out) (Kd.R_base ho0) hb)
    have n3_ := Aside0.mk (Kd.R_elder' (by (with_reducible repeat (first | apply Kd.R_alloc | apply Kd.R_drewN | apply Kd.R_drew)); exact HO274.out) (Kd.R_base ho1) hb)
    have n4_ := Aside0.mk (Kd.R_lower (Kd.R_new' (Kd.R_new' ho0 (Kd.R_lt (by (with_reducible repeat (first | apply Kd.R_alloc | apply Kd.R_drewN | apply Kd.R_drew)); exact HO264.out))) (Kd.R_lt (by (with_reducible repeat (first | apply Kd.R_alloc | apply Kd.R_drewN | apply Kd.R_drew)); exact HO271.out))) (below_size (by repeat (first | (with_reducible first | exact HB.out | apply below_alloc | apply pw_below_drewN | apply below_drew1 | refine below_set ?_ GE260.out | refine below_set ?_ GE275.out) | exact HB.out))))
    have n5_ := Aside0.mk (Kd.R_lower (Kd.R_new' (Kd.R_new' ho1 (Kd.R_lt (by (with_reducible repeat (first | apply Kd.R_alloc | apply Kd.R_drewN | apply Kd.R_drew)); exact HO267.out))) (Kd.R_lt (by (with_reducible repeat (first | apply Kd.R_alloc | apply Kd.R_drewN | apply Kd.R_drew)); exact HO274.out))) (below_size (by repeat (first | (with_reducible first | exact HB.out | apply below_alloc | apply pw_below_drewN | apply below_drew1 | refine below_set ?_ GE260.out | refine below_set ?_ GE275.out) | exact HB.out))))
    have n6_ := Aside0.mk (blk_below (g := gb260) (o := .cells #[.slice A0_0 l0_0.length c0_0, .slice A0_1 l0_1.length c0_1] 25 (0, 0)) (by (with_reducible repeat (first | refine blk_drewN ?_ _ | refine blk_drew ?_ | refine blk_alloc ?_ _)); exact BK260.out) hb)
    have n7_ := Aside0.mk (blk_below (g := gb275) (o := .cells #[.slice Ao27 t269.length co27, .slice Ao30 t272.length co30] 41 (0, 0)) (by (with_reducible repeat (first | refine blk_drewN ?_ _ | refine blk_drew ?_ | refine blk_alloc ?_ _)); exact BK275.out) hb)
    have n8_ := Aside0.mk (below_step (by repeat (first | (with_reducible first | exact HB.out | apply below_alloc | apply pw_below_drewN | apply below_drew1 | refine below_set ?_ GE260.out | refine below_set ?_ GE275.out) | exact HB.out)) hb)
    clear HO264
    clear HO267
    clear HO271
    clear HO274
    clear BK260
    clear BK275
    clear HB
    have HO264 := n0_
    have HO267 := n1_
    have HO271 := n2_
    have HO274 := n3_
    have HO279 := n4_
    have HO282 := n5_
    have BK260 := n6_
    have BK275 := n7_
    have HB := n8_
    clear n0_ n1_ n2_ n3_ n4_ n5_ n6_ n7_ n8_
    (try clear hb)
    (try clear hb2)
    (try clear hk)
    (try clear hi)
    (try clear ho0)
    (try clear ho1)
    obtain ⟨Ao34, co34, eo34⟩ := Kd.R_slice HO279.out
    (first | subst eo34 | (injection eo34 with f1_ f2_ f3_; have f4_ := f1_.symm; have f5_ := f3_.symm; clear f1_ f2_ f3_; subst f4_; subst f5_))
    obtain ⟨Ao35, co35, eo35⟩ := Kd.R_slice HO282.out
    (first | subst eo35 | (injection eo35 with f1_ f2_ f3_; have f4_ := f1_.symm; have f5_ := f3_.symm; clear f1_ f2_ f3_; subst f4_; subst f5_))
    refine hK.out _ _ ⟨(blk_cell BK275.out 0).trans rfl, (blk_cell BK275.out 1).trans rfl, (blk_cell BK260.out 0).trans rfl, (blk_cell BK260.out 1).trans rfl⟩ (fun hHeld => ?_)
    clear hK K
    refine norm_ (a' := ?_) ?_ ?_
    rotate_left
    ·show Act.put _ (some 28) _ = _
     simp only [Act.put, List.setIfInBounds_toArray, List.set_cons_zero, List.set_cons_succ, i64_w, i32_w]
     rfl
    refine one_ (i := 3) (N := some 29) #[true, true, true, true, false] rfl rfl (by kernel_rfl) (by decide) (fun K hK => ?_)
    refine goes_ Try.func40 (by kernel_rfl) rfl #[.agg #[.slice Ao27 t269.length co27, .slice Ao30 t272.length co30], .agg #[.slice Ao34 t277.length co34, .slice Ao35 t280.length co35]] (by rfl) rfl rfl (by (try simp only [List.map_toArray, List.map_cons, List.map_nil]); first | done | rfl | (simp only [List.length_drop, List.length_take]; rfl)) ?_
    with_reducible refine (laws_eqDisk.calls k _ _ t269 _ _ t272 _ _ t277 _ _ t280 true _ ?side1 ?side2 ?side3 ?side4 ?side5 ?side6 ?side7 ?side8 A14.out).mono ?_
    (case side1 => repeat (first | exact (Kd.R_reads' HO271.out).2.2 | (with_reducible refine Kd.C_alloc ?_ _) | (with_reducible refine Kd.C_drewN ?_ _) | (with_reducible refine Kd.C_drew ?_)))
    (case side2 => exact (Kd.R_reads' HO271.out).2.1)
    (case side3 => repeat (first | exact (Kd.R_reads' HO274.out).2.2 | (with_reducible refine Kd.C_alloc ?_ _) | (with_reducible refine Kd.C_drewN ?_ _) | (with_reducible refine Kd.C_drew ?_)))
    (case side4 => exact (Kd.R_reads' HO274.out).2.1)
    (case side5 => repeat (first | exact (Kd.R_reads' HO279.out).2.2 | (with_reducible refine Kd.C_alloc ?_ _) | (with_reducible refine Kd.C_drewN ?_ _) | (with_reducible refine Kd.C_drew ?_)))
    (case side6 => exact (Kd.R_reads' HO279.out).2.1)
    (case side7 => repeat (first | exact (Kd.R_reads' HO282.out).2.2 | (with_reducible refine Kd.C_alloc ?_ _) | (with_reducible refine Kd.C_drewN ?_ _) | (with_reducible refine Kd.C_drew ?_)))
    (case side8 => exact (Kd.R_reads' HO282.out).2.1)
    rintro e w36 ⟨rfl, hb⟩
    refine ⟨_, rfl, ?_⟩
    have n0_ := Aside0.mk (Kd.R_below (by (with_reducible repeat (first | apply Kd.R_alloc | apply Kd.R_drewN | apply Kd.R_drew)); exact HO264.out) hb)
    have n1_ := Aside0.mk (Kd.R_below (by (with_reducible repeat (first | apply Kd.R_alloc | apply Kd.R_drewN | apply Kd.R_drew)); exact HO267.out) hb)
    have n2_ := Aside0.mk (Kd.R_below (by (with_reducible repeat (first | apply Kd.R_alloc | apply Kd.R_drewN | apply Kd.R_drew)); exact HO271.out) hb)
    have n3_ := Aside0.mk (Kd.R_below (by (with_reducible repeat (first | apply Kd.R_alloc | apply Kd.R_drewN | apply Kd.R_drew)); exact HO274.out) hb)
    have n4_ := Aside0.mk (Kd.R_below (by (with_reducible repeat (first | apply Kd.R_alloc | apply Kd.R_drewN | apply Kd.R_drew)); exact HO279.out) hb)
    have n5_ := Aside0.mk (Kd.R_below (by (with_reducible repeat (first | apply Kd.R_alloc | apply Kd.R_drewN | apply Kd.R_drew)); exact HO282.out) hb)
    have n6_ := Aside0.mk (blk_below (g := gb260) (o := .cells #[.slice A0_0 l0_0.length c0_0, .slice A0_1 l0_1.length c0_1] 25 (0, 0)) (by (with_reducible repeat (first | refine blk_drewN ?_ _ | refine blk_drew ?_ | refine blk_alloc ?_ _)); exact BK260.out) hb)
    have n7_ := Aside0.mk (blk_below (g := gb275) (o := .cells #[.slice Ao27 t269.length co27, .slice Ao30 t272.length co30] 41 (0, 0)) (by (with_reducible repeat (first | refine blk_drewN ?_ _ | refine blk_drew ?_ | refine blk_alloc ?_ _)); exact BK275.out) hb)
    have n8_ := Aside0.mk (below_step (by repeat (first | (with_reducible first | exact HB.out | apply below_alloc | apply pw_below_drewN | apply below_drew1 | refine below_set ?_ GE260.out | refine below_set ?_ GE275.out) | exact HB.out)) hb)
    clear HO264
    clear HO267
    clear HO271
    clear HO274
    clear HO279
    clear HO282
    clear BK260
    clear BK275
    clear HB
    have HO264 := n0_
    have HO267 := n1_
    have HO271 := n2_
    have HO274 := n3_
    have HO279 := n4_
    have HO282 := n5_
    have BK260 := n6_
    have BK275 := n7_
    have HB := n8_
    clear n0_ n1_ n2_ n3_ n4_ n5_ n6_ n7_ n8_
    (try clear hb)
    (try clear hb2)
    (try clear hk)
    (try clear hi)
    refine hK.out _ _ ⟨(blk_cell BK275.out 0).trans rfl, (blk_cell BK275.out 1).trans rfl, (blk_cell BK260.out 0).trans rfl, (blk_cell BK260.out 1).trans rfl⟩ (fun hHeld => ?_)
    clear hK K
    refine norm_ (a' := ?_) ?_ ?_
    rotate_left
    ·show Act.put _ (some 29) _ = _
     simp only [Act.put, List.setIfInBounds_toArray, List.set_cons_zero, List.set_cons_succ, i64_w, i32_w]
     rfl
    refine pure_ (i := 4) (N := some 30) (v := ?_) (a' := ?_) #[true, true, true, true, true] rfl rfl (by kernel_rfl) (fun _ _ _ h => h) (Or.inl ⟨by rfl, ?_⟩) ?_ ?_
    rotate_left
    ·intro w'
     go_simp
     with_reducible rfl
    rotate_left
    ·simp only [Act.put, List.setIfInBounds_toArray, List.set_cons_zero, List.set_cons_succ, i64_w, i32_w]
     rfl
    refine done_ (by kernel_rfl) ?_
    try go_wp2
    go_ret
    exact ⟨by first | rfl | (simp [errW_none, errW_some] <;> rfl) | (simp [*, errW_none, errW_some] <;> rfl), by repeat (first | (with_reducible first | exact HB.out | apply below_alloc | apply pw_below_drewN | apply below_drew1 | refine below_set ?_ GE260.out | refine below_set ?_ GE275.out) | exact HB.out)⟩
   ·replace c15 := Bool.eq_false_iff.mpr c15
    subst c15
    have H1 : (none) = some r := by rw [if_neg (show ¬ (false = true) by decide)] at H; exact H
    clear H
    have H := H1
    clear H1
    exact absurd H (by simp)
end Go.Proofs.Ytapholbdjccapaa.PFnExactTreeOk
namespace Go.Proofs.Ytapholbdjccapaa.PFnExactTreeOk
open Go.RowKit Go.Proofs.YtapholbdjccapaaW.PrintWords Go.Proofs.YtapholbdjccapaaW.PrintLast Go.Proofs.YtapholbdjccapaaW.PrintMore
set_option linter.unusedVariables false
set_option linter.unusedSimpArgs false
theorem rd_T189_nat (xs : List S189) (k : Nat) (hk : k < xs.length) : rd_T189 xs (k : Int) = xs[k] := by
 simp [rd_T189, List.getD_eq_getElem?_getD, List.getElem?_eq_getElem hk]
theorem rd_T187_nat (xs : List S187) (k : Nat) (hk : k < xs.length) : rd_T187 xs (k : Int) = xs[k] := by
 simp [rd_T187, List.getD_eq_getElem?_getD, List.getElem?_eq_getElem hk]
theorem wrap_in {x : Int} (h1 : -9223372036854775808 ≤ x) (h2 : x ≤ 9223372036854775807) : wrap64 x = x := by unfold wrap64; omega
theorem szS_go (l : List ByteArray) (hs : ∀ s ∈ l, s.size ≤ 9223372036854775807) (hl : l.length ≤ 9223372036854775807) : ∀ (n i : Nat) (x : Int), i + n = l.length → 0 ≤ x → x ≤ 1048576 → ∃ r, laws_szStringS.l0 (n + 1) l x (i : Int) = some r ∧ (r < 0 ∨ (0 ≤ r ∧ r ≤ x ∧ ∀ j (hj : j < l.length), i ≤ j → (l[j].size : Int) ≤ x)) := by
 intro n
 induction n with
 | zero =>
  intro i x hi h0 h1
  refine ⟨x, ?_, .inr ⟨h0, Int.le_refl _, fun j hj h => by omega⟩⟩
  rw [laws_szStringS.l0, if_neg (by omega)]
 | succ n ih =>
  intro i x hi h0 h1
  have hlt : i < l.length := by omega
  have hsz := hs l[i] (List.getElem_mem hlt)
  rw [laws_szStringS.l0, if_pos (by omega), if_pos (by omega), rdOf_nat _ _ _ hlt, wrap_in (by omega) (by omega), wrap_in (by omega) (by omega)]
  by_cases hneg : x - (l[i].size : Int) < 0
  ·rw [if_pos hneg]
   exact ⟨-1, rfl, .inl (by omega)⟩
  ·rw [if_neg hneg]
   obtain ⟨r, h2, h3⟩ := ih (i + 1) (x - (l[i].size : Int)) (by omega) (by omega) (by omega)
   refine ⟨r, by rw [show (i : Int) + 1 = ((i + 1 : Nat) : Int) by omega]; exact h2, ?_⟩
   rcases h3 with h3 | ⟨h4, h5, h6⟩
   ·exact .inl h3
   ·refine .inr ⟨h4, by omega, fun j hj h => ?_⟩
    by_cases e : j = i
    ·subst e; omega
    ·have := h6 j hj (by omega); omega
theorem szS_ev (l : List ByteArray) (hs : ∀ s ∈ l, s.size ≤ 9223372036854775807) (hl : l.length ≤ 9223372036854775807) (x : Int) (h0 : 0 ≤ x) (h1 : x ≤ 1048576) : ∃ r, Ev (fun k => laws_szStringS.f k l x) r ∧ (r < 0 ∨ (0 ≤ r ∧ r ≤ x ∧ (l.length : Int) ≤ x ∧ ∀ s ∈ l, (s.size : Int) ≤ x)) := by
 by_cases hneg : x - (l.length : Int) < 0
 ·refine ⟨-1, Ev.of (k := 0) (fun k => laws_szStringS.mono _ _ k) ?_, .inl (by omega)⟩
  unfold laws_szStringS.f
  rw [wrap_in (by omega) (by omega), if_pos hneg]
 ·obtain ⟨r, h2, h3⟩ := szS_go l hs hl l.length 0 (x - (l.length : Int)) (by omega) (by omega) (by omega)
  refine ⟨r, Ev.of (k := l.length + 1) (fun k => laws_szStringS.mono _ _ k) ?_, ?_⟩
  ·unfold laws_szStringS.f
   rw [wrap_in (by omega) (by omega), if_neg hneg]
   exact h2
  ·rcases h3 with h3 | ⟨h4, h5, h6⟩
   ·exact .inl h3
   ·refine .inr ⟨h4, by omega, by omega, fun s hs => ?_⟩
    obtain ⟨j, hj, rfl⟩ := List.getElem_of_mem hs
    have := h6 j hj (Nat.zero_le _)
    omega
theorem szP_go (l : List S187) (hs : ∀ s ∈ l, s.f1.size ≤ 9223372036854775807) (hl : l.length ≤ 9223372036854775807) : ∀ (n i : Nat) (x : Int), i + n = l.length → 0 ≤ x → x ≤ 1048576 → ∃ r, laws_szPutS.l0 (n + 1) l x (i : Int) = some r ∧ (r < 0 ∨ (0 ≤ r ∧ r ≤ x ∧ ∀ j (hj : j < l.length), i ≤ j → (l[j].f1.size : Int) ≤ x)) := by
 intro n
 induction n with
 | zero =>
  intro i x hi h0 h1
  refine ⟨x, ?_, .inr ⟨h0, Int.le_refl _, fun j hj h => by omega⟩⟩
  rw [laws_szPutS.l0, if_neg (by omega)]
 | succ n ih =>
  intro i x hi h0 h1
  have hlt : i < l.length := by omega
  have hsz := hs l[i] (List.getElem_mem hlt)
  rw [laws_szPutS.l0, if_pos (by omega), if_pos (by omega), rd_T187_nat _ _ hlt, laws_szPut.f, wrap_in (x := x - _) (by omega) (by omega), wrap_in (x := (i : Int) + 1) (by omega) (by omega)]
  by_cases hneg : x - (l[i].f1.size : Int) < 0
  ·rw [if_pos hneg, Option.bind_some, if_pos (by omega)]
   exact ⟨-1, rfl, .inl (by omega)⟩
  ·rw [if_neg hneg, Option.bind_some, if_neg hneg]
   obtain ⟨r, h2, h3⟩ := ih (i + 1) (x - (l[i].f1.size : Int)) (by omega) (by omega) (by omega)
   refine ⟨r, by rw [show (i : Int) + 1 = ((i + 1 : Nat) : Int) by omega]; exact h2, ?_⟩
   rcases h3 with h3 | ⟨h4, h5, h6⟩
   ·exact .inl h3
   ·refine .inr ⟨h4, by omega, fun j hj h => ?_⟩
    by_cases e : j = i
    ·subst e; omega
    ·have := h6 j hj (by omega); omega
theorem szP_ev (l : List S187) (hs : ∀ s ∈ l, s.f1.size ≤ 9223372036854775807) (hl : l.length ≤ 9223372036854775807) (x : Int) (h0 : 0 ≤ x) (h1 : x ≤ 1048576) : ∃ r, Ev (fun k => laws_szPutS.f k l x) r ∧ (r < 0 ∨ (0 ≤ r ∧ r ≤ x ∧ (l.length : Int) ≤ x ∧ ∀ s ∈ l, (s.f1.size : Int) ≤ x)) := by
 by_cases hneg : x - (l.length : Int) < 0
 ·refine ⟨-1, Ev.of (k := 0) (fun k => laws_szPutS.mono _ _ k) ?_, .inl (by omega)⟩
  unfold laws_szPutS.f
  rw [wrap_in (by omega) (by omega), if_pos hneg]
 ·obtain ⟨r, h2, h3⟩ := szP_go l hs hl l.length 0 (x - (l.length : Int)) (by omega) (by omega) (by omega)
  refine ⟨r, Ev.of (k := l.length + 1) (fun k => laws_szPutS.mono _ _ k) ?_, ?_⟩
  ·unfold laws_szPutS.f
   rw [wrap_in (by omega) (by omega), if_neg hneg]
   exact h2
  ·rcases h3 with h3 | ⟨h4, h5, h6⟩
   ·exact .inl h3
   ·refine .inr ⟨h4, by omega, by omega, fun s hs => ?_⟩
    obtain ⟨j, hj, rfl⟩ := List.getElem_of_mem hs
    have := h6 j hj (Nat.zero_le _)
    omega
def Small (pages : List ByteArray) (late : List S187) : Prop := (pages.length ≤ 1048576 ∧ ∀ s ∈ pages, s.size ≤ 1048576) ∧ (late.length ≤ 1048576 ∧ ∀ s ∈ late, s.f1.size ≤ 1048576)
theorem szD_ev (pages : List ByteArray) (late : List S187) (h1 : ∀ s ∈ pages, s.size ≤ 9223372036854775807) (h2 : pages.length ≤ 9223372036854775807) (h3 : ∀ s ∈ late, s.f1.size ≤ 9223372036854775807) (h4 : late.length ≤ 9223372036854775807) : ∃ r, Ev (fun k => laws_szDisk.f k pages late 1048576) r ∧ (r < 0 ∨ (¬ r < 0 ∧ Small pages late)) := by
 obtain ⟨a, ea, ha⟩ := szS_ev pages h1 h2 1048576 (by omega) (by omega)
 rcases ha with ha | ⟨a0, a1, a2, a3⟩
 ·refine ⟨-1, Ev.bind ea ?_, .inl (by omega)⟩
  simp only [if_pos ha]
  exact Ev.now _
 ·obtain ⟨b, eb, hb⟩ := szP_ev late h3 h4 a a0 a1
  rcases hb with hb | ⟨b0, b1, b2, b3⟩
  ·refine ⟨-1, Ev.bind ea ?_, .inl (by omega)⟩
   simp only [if_neg (show ¬ a < 0 by omega)]
   refine Ev.bind eb ?_
   simp only [if_pos hb]
   exact Ev.now _
  ·refine ⟨b, Ev.bind ea ?_, .inr ⟨by omega, ⟨by omega, fun s hs => by have := a3 s hs; omega⟩, ⟨by omega, fun s hs => by have := b3 s hs; omega⟩⟩⟩
   simp only [if_neg (show ¬ a < 0 by omega)]
   refine Ev.bind eb ?_
   simp only [if_neg (show ¬ b < 0 by omega)]
   exact Ev.now _
theorem set_front {α : Type} (l r : List α) (x y : α) : (l ++ x :: r).set l.length y = (l ++ [y]) ++ r := by
 rw [List.set_append_right _ _ (Nat.le_refl _), Nat.sub_self, List.set_cons_zero, List.append_assoc, List.singleton_append]
theorem toS_go (l : List ByteArray) (hl : l.length ≤ 1048576) : ∀ (n i : Nat), i + n = l.length → laws_toStringS.l0 (n + 1) l (l.take i ++ List.replicate n (⟨#[]⟩ : ByteArray)) (i : Int) = some l := by
 intro n
 induction n with
 | zero =>
  intro i hi
  rw [laws_toStringS.l0, if_neg (by omega), List.replicate_zero, List.append_nil, List.take_of_length_le (by omega)]
 | succ n ih =>
  intro i hi
  have hlt : i < l.length := by omega
  have hti : (l.take i).length = i := by rw [List.length_take]; omega
  rw [laws_toStringS.l0, if_pos (by omega), if_pos (by omega), if_pos (by simp; omega), rdOf_nat _ _ _ hlt, wrap_in (by omega) (by omega), Int.toNat_natCast, List.replicate_succ]
  have := set_front (l.take i) (List.replicate n (⟨#[]⟩ : ByteArray)) ⟨#[]⟩ l[i]
  rw [hti] at this
  rw [this, List.take_append_getElem hlt, show (i : Int) + 1 = ((i + 1 : Nat) : Int) by omega]
  exact ih (i + 1) (by omega)
theorem toS_ev (l : List ByteArray) (hl : l.length ≤ 1048576) : Ev (fun k => laws_toStringS.f k l) l := by
 refine Ev.of (k := l.length + 1) (fun k => laws_toStringS.mono _ k) ?_
 unfold laws_toStringS.f
 rw [if_pos (by omega), if_pos (by rw [Int.toNat_natCast]; omega), Int.toNat_natCast]
 have := toS_go l hl l.length 0 (by omega)
 simpa using this
def conv (x : S187) : S189 := ⟨x.f0, x.f1⟩
theorem toP_go (l : List S187) (hl : l.length ≤ 1048576) : ∀ (n i : Nat), i + n = l.length → laws_toPutS.l0 (n + 1) l ((l.map conv).take i ++ List.replicate n z189) (i : Int) = some (l.map conv) := by
 intro n
 induction n with
 | zero =>
  intro i hi
  rw [laws_toPutS.l0, if_neg (by omega), List.replicate_zero, List.append_nil, List.take_of_length_le (by rw [List.length_map]; omega)]
 | succ n ih =>
  intro i hi
  have hlt : i < l.length := by omega
  have hlt' : i < (l.map conv).length := by rw [List.length_map]; exact hlt
  have hti : ((l.map conv).take i).length = i := by rw [List.length_take, List.length_map]; omega
  rw [laws_toPutS.l0, if_pos (by omega), if_pos (by omega), rd_T187_nat _ _ hlt, laws_toPut.f, Option.bind_some, if_pos (by simp; omega), wrap_in (by omega) (by omega), Int.toNat_natCast, List.replicate_succ]
  have := set_front ((l.map conv).take i) (List.replicate n z189) z189 (conv l[i])
  rw [hti] at this
  show laws_toPutS.l0 (n + 1) l (((l.map conv).take i ++ z189 :: List.replicate n z189).set i (conv l[i])) _ = _
  rw [this, show conv l[i] = (l.map conv)[i] by rw [List.getElem_map], List.take_append_getElem hlt', show (i : Int) + 1 = ((i + 1 : Nat) : Int) by omega]
  exact ih (i + 1) (by omega)
theorem toP_ev (l : List S187) (hl : l.length ≤ 1048576) : Ev (fun k => laws_toPutS.f k l) (l.map conv) := by
 refine Ev.of (k := l.length + 1) (fun k => laws_toPutS.mono _ k) ?_
 unfold laws_toPutS.f
 rw [if_pos (by omega), if_pos (by rw [Int.toNat_natCast]; omega), Int.toNat_natCast]
 have := toP_go l hl l.length 0 (by omega)
 simpa using this
theorem toD_ev (pages : List ByteArray) (late : List S187) (h : Small pages late) : Ev (fun k => laws_toDisk.f k pages late) (pages, late.map conv) :=
 Ev.bind (toS_ev pages h.1.1) (Ev.bind (toP_ev late h.2.1) (Ev.now _))
theorem eqS_go (l : List ByteArray) (hl : l.length ≤ 1048576) : ∀ (n i : Nat), i + n = l.length → laws_eqStringS.l0 (n + 1) l l (i : Int) = some true := by
 intro n
 induction n with
 | zero => intro i hi; rw [laws_eqStringS.l0, if_neg (by omega)]
 | succ n ih =>
  intro i hi
  rw [laws_eqStringS.l0, if_pos (by omega), if_pos (by omega), if_pos (by omega), if_pos rfl, wrap_in (by omega) (by omega), show (i : Int) + 1 = ((i + 1 : Nat) : Int) by omega]
  exact ih (i + 1) (by omega)
theorem eqP_go (l : List S189) (hl : l.length ≤ 1048576) : ∀ (n i : Nat), i + n = l.length → laws_eqPutS.l0 (n + 1) l l (i : Int) = some true := by
 intro n
 induction n with
 | zero => intro i hi; rw [laws_eqPutS.l0, if_neg (by omega)]
 | succ n ih =>
  intro i hi
  rw [laws_eqPutS.l0, if_pos (by omega), if_pos (by omega), if_pos (by omega), laws_eqPut.f, if_pos rfl, if_pos rfl, Option.bind_some, if_pos rfl, wrap_in (by omega) (by omega), show (i : Int) + 1 = ((i + 1 : Nat) : Int) by omega]
  exact ih (i + 1) (by omega)
theorem eqD_ev (pages : List ByteArray) (late : List S189) (h1 : pages.length ≤ 1048576) (h2 : late.length ≤ 1048576) : Ev (fun k => laws_eqDisk.f k pages late pages late) true := by
 refine Ev.bind (a := true) (Ev.of (k := pages.length + 1) (fun k => laws_eqStringS.mono _ _ k) ?_) ?_
 ·unfold laws_eqStringS.f
  rw [if_pos rfl]
  exact eqS_go pages h1 pages.length 0 (by omega)
 ·simp only [if_true]
  refine Ev.bind (a := true) (Ev.of (k := late.length + 1) (fun k => laws_eqPutS.mono _ _ k) ?_) ?_
  ·unfold laws_eqPutS.f
   rw [if_pos rfl]
   exact eqP_go late h2 late.length 0 (by omega)
  ·simp only [if_true]
   exact Ev.now _
theorem page_go (pages : List ByteArray) (late : List S189) (h1 : ∀ s ∈ pages, s.size ≤ 1048576) (h2 : ∀ s ∈ late, s.f1.size ≤ 1048576) (page : Int) (hp0 : 0 ≤ page) (hp1 : page < (pages.length : Int)) (hl : late.length ≤ 1048576) :
  ∀ n : Nat, n ≤ late.length → ∃ s : ByteArray, impl_ReadPage.l0 (n + 1) page ((n : Int) - 1) pages late = some s ∧ spec_ReadPage.l0 (n + 1) page ((n : Int) - 1) pages late = some s ∧ s.size ≤ 1048576 := by
 intro n
 induction n with
 | zero =>
  intro _
  refine ⟨rdOf ByteArray.empty pages page, ?_, ?_, ?_⟩
  ·rw [impl_ReadPage.l0, if_neg (by omega), if_pos hp0, if_pos hp1]
  ·rw [spec_ReadPage.l0, if_neg (by omega), if_pos hp0, if_pos hp1]
  ·obtain ⟨p, rfl⟩ : ∃ p : Nat, page = (p : Int) := ⟨page.toNat, by omega⟩
   rw [rdOf_nat _ _ _ (by omega)]
   exact h1 _ (List.getElem_mem _)
 | succ n ih =>
  intro hn
  have e : (((n + 1 : Nat) : Int) - 1) = (n : Int) := by omega
  have hlt : n < late.length := by omega
  have ei : impl_ReadPage.l0 (n + 1 + 1) page (n : Int) pages late = if late[n].f0 = page then some late[n].f1 else impl_ReadPage.l0 (n + 1) page ((n : Int) - 1) pages late := by
   rw [impl_ReadPage.l0, if_pos (by omega), if_pos (by omega), if_pos (by omega), rd_T189_nat _ _ hlt, wrap_in (by omega) (by omega)]
  have es : spec_ReadPage.l0 (n + 1 + 1) page (n : Int) pages late = if late[n].f0 = page then some late[n].f1 else spec_ReadPage.l0 (n + 1) page ((n : Int) - 1) pages late := by
   rw [spec_ReadPage.l0, if_pos (by omega), if_pos (by omega), if_pos (by omega), rd_T189_nat _ _ hlt, wrap_in (by omega) (by omega)]
  rw [e, ei, es]
  by_cases hx : late[n].f0 = page
  ·rw [if_pos hx, if_pos hx]
   exact ⟨_, rfl, rfl, h2 _ (List.getElem_mem _)⟩
  ·rw [if_neg hx, if_neg hx]
   exact ih (by omega)
theorem page_both (pages : List ByteArray) (late : List S189) (h0 : pages.length ≤ 1048576) (h1 : ∀ s ∈ pages, s.size ≤ 1048576) (h2 : ∀ s ∈ late, s.f1.size ≤ 1048576) (hl : late.length ≤ 1048576) (page : Int) : ∃ s : ByteArray, (∃ k, impl_ReadPage.f k pages late page = some s) ∧ (∃ k, spec_ReadPage.f k pages late page = some s) ∧ s.size ≤ 1048576 := by
 have hw : wrap64 ((pages.length : Int) - 1) = (pages.length : Int) - 1 := wrap_in (by omega) (by omega)
 have hv : wrap64 ((late.length : Int) - 1) = (late.length : Int) - 1 := wrap_in (by omega) (by omega)
 by_cases hin : 0 ≤ page ∧ page ≤ (pages.length : Int) - 1
 ·obtain ⟨s, e1, e2, e3⟩ := page_go pages late h1 h2 page hin.1 (by omega) hl late.length (Nat.le_refl _)
  refine ⟨s, ⟨late.length + 1, ?_⟩, ⟨late.length + 1, ?_⟩, e3⟩
  ·unfold impl_ReadPage.f impl_isPage.f impl_in.f
   rw [hw, hv, if_pos hin.1, decide_eq_true hin.2, Option.bind_some, Option.bind_some, if_pos rfl]
   exact e1
  ·unfold spec_ReadPage.f spec_l01In.f
   rw [hw, hv, if_pos hin.1, decide_eq_true hin.2, Option.bind_some, if_pos rfl]
   exact e2
 ·have hno : ∀ b : Option Bool, b = (if page ≥ 0 then (some (decide (page ≤ (pages.length : Int) - 1))) else (some false)) → b = some false := by
   rintro b rfl
   split
   ·rw [decide_eq_false (by omega)]
   ·rfl
  refine ⟨⟨#[]⟩, ⟨0, ?_⟩, ⟨0, ?_⟩, by decide⟩
  ·unfold impl_ReadPage.f impl_isPage.f
   rw [hw, hno (impl_in.f page 0 ((pages.length : Int) - 1)) rfl]
   rfl
  ·unfold spec_ReadPage.f
   rw [hw, hno (spec_l01In.f page 0 ((pages.length : Int) - 1)) rfl]
   rfl
theorem rnB_ex (pages : List ByteArray) (late : List S189) (h0 : pages.length ≤ 1048576) (h1 : ∀ s ∈ pages, s.size ≤ 1048576) (h2 : ∀ s ∈ late, s.f1.size ≤ 1048576) (hl : late.length ≤ 1048576) : ∃ rn, RnB pages late rn := by
 have h : ∀ page : Int, ∃ x : S68 × Bool, ∃ s, (∃ k, impl_ReadPage.f k pages late page = some s) ∧ (∃ k, spec_ReadPage.f k pages late page = some s) ∧ (∀ w, Calls Try.prog 30 #[.string s] w (NodePost w x.1 x.2)) ∧ (∀ w, Calls Try.prog 35 #[.string s] w (NodePost w x.1 x.2)) ∧ ((x.2 = true ∧ nodeOkB x.1.f0 x.1.f1 x.1.f2 x.1.f3 = true) ∨ (x.2 = false ∧ x.1 = z68)) := by
  intro page
  obtain ⟨s, e1, e2, e3⟩ := page_both pages late h0 h1 h2 hl page
  obtain ⟨n, ok, c1, c2, c3⟩ := node_both s (by omega)
  exact ⟨(n, ok), s, e1, e2, c1, c2, c3⟩
 refine ⟨fun page => Classical.choose (h page), fun page => ?_, fun page => ?_⟩
 ·obtain ⟨s, e1, e2, c1, c2, c3⟩ := Classical.choose_spec (h page)
  exact ⟨s, e1, c1, c3⟩
 ·obtain ⟨s, e1, e2, c1, c2, c3⟩ := Classical.choose_spec (h page)
  exact ⟨s, e2, c2, c3⟩
theorem rnB_good {pages : List ByteArray} {late : List S189} {rn : Int → S68 × Bool} (h : RnB pages late rn) : RnG rn := by
 intro page hok
 obtain ⟨s, _, _, hc⟩ := h.1 page
 rcases hc with hc | hc
 ·obtain ⟨hshape, hcond⟩ := (nodeOk_iff _ _ _ _).1 hc.2
  refine ⟨fun i hi => ?_, fun hl => (hshape.2.2 hl).1⟩
  have := (hcond (i + 1) hi).2.1 (by omega)
  simpa using this
 ·rw [hc.1] at hok; cases hok
theorem law_true (pages : List ByteArray) (late : List S187) (root : Int) (h1 : ∀ s ∈ pages, s.size ≤ 9223372036854775807) (h2 : pages.length ≤ 9223372036854775807) (h3 : ∀ s ∈ late, s.f1.size ≤ 9223372036854775807) (h4 : late.length ≤ 9223372036854775807) : ∃ k, laws_FnExactTreeOk.f k pages late root = some true := by
 obtain ⟨r, er, hr⟩ := szD_ev pages late h1 h2 h3 h4
 refine Ev.rounds (g := fun k => laws_FnExactTreeOk.f k pages late root) (r := true) (Ev.bind er ?_)
 rcases hr with hr | ⟨hr, hs⟩
 ·simp only [if_pos hr]
  exact Ev.now _
 ·simp only [if_neg hr]
  have hto := toD_ev pages late hs
  have hl2 : (late.map conv).length ≤ 1048576 := by rw [List.length_map]; exact hs.2.1
  obtain ⟨rn, hrn⟩ := rnOf_ex (rnB_ex pages (late.map conv) hs.1.1 hs.1.2 (fun s hx => by
   obtain ⟨y, hy, rfl⟩ := List.mem_map.1 hx
   exact hs.2.2 y hy) hl2)
  have hi : impl_TreeOk.f pages (late.map conv) root = some (okI (tof rn root)) := by unfold impl_TreeOk.f; rw [hrn]; rfl
  have hsp : spec_TreeOk.f pages (late.map conv) root = some (okI (tof rn root)) := by unfold spec_TreeOk.f; rw [hrn, ok_same (rnB_good (rnOf_some hrn))]; rfl
  refine Ev.bind hto ?_
  simp only [hsp, Option.bind_some]
  refine Ev.bind hto ?_
  simp only [hi, Option.bind_some, bne_self_eq_false, Bool.false_eq_true, if_false]
  refine Ev.bind hto ?_
  refine Ev.bind (eqD_ev pages (late.map conv) hs.1.1 hl2) ?_
  simp only [if_true]
  exact Ev.now _
end Go.Proofs.Ytapholbdjccapaa.PFnExactTreeOk
namespace Go.Proofs.Ytapholbdjccapaa.Head
set_option maxRecDepth 100000
def w1 : List Char := [104, 97, 114, 110, 101, 115, 115].map Char.ofNat
def w2 : List Char := [97, 53, 100, 48, 51, 50, 48, 56, 102, 98, 52, 49, 98, 49, 48, 54, 97, 56, 100, 52, 97, 49, 101, 100, 97, 54, 57, 56, 56, 52, 99, 52, 54, 102, 102, 97, 102, 101, 56, 102, 102, 98, 53, 57, 98, 55, 101, 57, 50, 50, 99, 56, 57, 54, 52, 97, 53, 53, 53, 100, 55, 99, 49, 101].map Char.ofNat
def w3 : List Char := [99, 117, 116].map Char.ofNat
def w4 : List Char := [97, 116, 32, 108, 111, 111, 112, 46, 101, 120, 97, 109, 112, 108, 101, 47, 103, 48, 48, 50, 52, 48, 47, 108, 97, 119, 115, 46, 70, 110, 69, 120, 97, 99, 116, 79, 108, 100, 101, 115, 116, 79, 102, 32, 108, 111, 111, 112, 46, 101, 120, 97, 109, 112, 108, 101, 47, 103, 48, 48, 50, 52, 48, 47, 108, 97, 119, 115, 46, 70, 110, 77, 101, 116, 97, 115, 32, 108, 111, 111, 112, 46, 101, 120, 97, 109, 112, 108, 101, 47, 103, 48, 48, 50, 52, 48, 47, 108, 97, 119, 115, 46, 70, 110, 78, 111, 100, 101, 115, 32, 108, 111, 111, 112, 46, 101, 120, 97, 109, 112, 108, 101, 47, 103, 48, 48, 50, 52, 48, 47, 108, 97, 119, 115, 46, 70, 110, 69, 120, 97, 99, 116, 84, 114, 101, 101, 79, 107, 32, 108, 111, 111, 112, 46, 101, 120, 97, 109, 112, 108, 101, 47, 103, 48, 48, 50, 52, 48, 47, 108, 97, 119, 115, 46, 70, 110, 69, 120, 97, 99, 116, 65, 108, 108, 80, 97, 105, 114, 115, 32, 108, 111, 111, 112, 46, 101, 120, 97, 109, 112, 108, 101, 47, 103, 48, 48, 50, 52, 48, 47, 108, 97, 119, 115, 46, 70, 110, 69, 120, 97, 99, 116, 80, 97, 105, 114, 115, 70, 114, 111, 109, 32, 108, 111, 111, 112, 46, 101, 120, 97, 109, 112, 108, 101, 47, 103, 48, 48, 50, 52, 48, 47, 108, 97, 119, 115, 46, 70, 110, 69, 120, 97, 99, 116, 80, 97, 103, 101, 115, 79, 102, 32, 108, 111, 111, 112, 46, 101, 120, 97, 109, 112, 108, 101, 47, 103, 48, 48, 50, 52, 48, 47, 108, 97, 119, 115, 46, 70, 110, 69, 120, 97, 99, 116, 80, 97, 103, 101, 115, 82, 105, 103, 104, 116].map Char.ofNat
def blank : Char := Char.ofNat 32
theorem cut_at (a r : List Char) (h : a.all (· != blank) = true) : wordsSigns (a ++ blank :: r) = a :: wordsSigns r := by
 induction a with
 | nil => rfl
 | cons c a ih =>
  simp only [List.all_cons, Bool.and_eq_true, bne_iff_ne] at h
  have e := ih h.2
  have hc : ∀ s, wordsSigns (c :: s) = match wordsSigns s with | w :: ws => (c :: w) :: ws | [] => [[c]] := by
   intro s
   conv => lhs; unfold wordsSigns
   split
   ·rename_i h0; cases h0
   ·rename_i h0
    injection h0 with h1 h2
    exact absurd h1 h.1
   ·rename_i h0 _ h1
    injection h1 with h2 h3
    subst h2
    subst h3
    rfl
  show wordsSigns (c :: (a ++ blank :: r)) = _
  rw [hc, e]
theorem io : Try.prog.initOrder = String.ofList (w1 ++ blank :: (w2 ++ blank :: (w3 ++ blank :: w4))) := by kernel_rfl
theorem words : wordsSigns Try.prog.initOrder.toList = w1 :: w2 :: w3 :: wordsSigns w4 := by
 rw [io, String.toList_ofList, cut_at _ _ (by kernel_rfl), cut_at _ _ (by kernel_rfl), cut_at _ _ (by kernel_rfl)]
theorem m0 : ((w1 == "harness".toList || w1 == "ownmain".toList) && isSumSigns w2) = true := by kernel_rfl
theorem m1 : (w3 == "gc".toList) = false := by kernel_rfl
theorem m2 : (w3 == "spec".toList) = false := by kernel_rfl
theorem m3 : (w3 == "cut".toList) = true := by kernel_rfl
theorem m4 : (w3 == "carried".toList) = false := by kernel_rfl
theorem m5 (R : List (List Char)) : ((w3 :: R).head? == some "cut".toList) = true := by kernel_rfl
theorem m5c (R : List (List Char)) : ((w3 :: R).head? == some "carried".toList) = false := by kernel_rfl
theorem m6 (R : List (List Char)) : stripLifts liftWords (w3 :: R) = ([], w3 :: R) := by kernel_rfl
theorem m7 : Try.prog.laysLater = false := by kernel_rfl
theorem m8 : Try.prog.bearsReflect = false := by kernel_rfl
theorem m9 : Try.prog.doorFits [] = true := by kernel_rfl
theorem behind (R : List (List Char)) : behindMainWord (w1 :: w2 :: R) = R := by
 show (if ((w1 == "harness".toList || w1 == "ownmain".toList) && isSumSigns w2) = true then R else w1 :: w2 :: R) = R
 rw [if_pos m0]
theorem beh : ∃ R, behindMainWord (wordsSigns Try.prog.initOrder.toList) = w3 :: R := ⟨wordsSigns w4, by rw [words, behind]⟩
theorem lifts_of (P : Program) (R : List (List Char)) (h : behindMainWord (wordsSigns P.initOrder.toList) = w3 :: R) : (false == P.liftsFinal) = true := by
 unfold Program.liftsFinal Program.headLifts
 rw [h]
 simp only [m5, m5c, m6]
 rfl
theorem may_of (P : Program) (R : List (List Char)) (h : behindMainWord (wordsSigns P.initOrder.toList) = w3 :: R) (h7 : P.laysLater = false) (h8 : P.bearsReflect = false) (h9 : P.doorFits [] = true) : P.mayEnter = true := by
 unfold Program.mayEnter
 rw [h]
 simp only [m1, m2, m4, m5, m6, h7, h8, h9]
 rfl
theorem made_of (P : Program) (R : List (List Char)) (h : behindMainWord (wordsSigns P.initOrder.toList) = w3 :: R) : (P.make == some Make.cut) = true := by
 unfold Program.make Program.headLifts
 rw [h]
 simp only [m1, m2, m3]
 rfl
theorem lifts : (false == Try.prog.liftsFinal) = true := by
 obtain ⟨R, h⟩ := beh
 exact lifts_of _ R h
theorem may : Try.prog.mayEnter = true := by
 obtain ⟨R, h⟩ := beh
 exact may_of _ R h m7 m8 m9
theorem made : (Try.prog.make == some Make.cut) = true := by
 obtain ⟨R, h⟩ := beh
 exact made_of _ R h
theorem laid : laidOutB Try.prog = true := by kernel_rfl
theorem maps : mapsRowed Try.prog = true := by kernel_rfl
theorem heard : Try.prog.stopsHeard = true := by kernel_rfl
theorem plain : (true == Try.prog.plainKeys) = true := by kernel_rfl
end Go.Proofs.Ytapholbdjccapaa.Head
namespace Go.Proofs.Ytapholbdjccapaa.Opened
open Go.RowKit Go.Deep Go.WideShapes Go.Proofs.YtapholbdjccapaaW.PrintWords
def Opens {α : Type} (P : Program) (t : TypeId) (d : Kd α) (ok : α → Prop) : Prop :=
 ∀ (H : Type) (enc : TypeId × Value → H) (w : World) (base : Nat) (spare : Nat → Bool) (held : Bool) (fuel : Nat) (cs : List Value) (x : DataW H × List MemPlace),
  DataW.trod enc P w base spare held fuel t cs = some x → ∃ y : α, d.K w y cs ∧ ok y
variable {P : Program}
theorem opens_int {t : TypeId} {k : IntKind} (hu : P.underlying t = some (.int k)) : Opens P t (Kd.int k) (fun _ => True) := by
 intro H enc w base spare held fuel cs x h
 obtain ⟨n, rfl, _, _⟩ := DataW.trod_int hu h
 exact ⟨n, rfl, trivial⟩
theorem opens_string {t : TypeId} (hu : P.underlying t = some .string) : Opens P t Kd.string (fun s => s.size ≤ 9223372036854775807) := by
 intro H enc w base spare held fuel cs x h
 obtain ⟨n, rfl, _, hs⟩ := DataW.trod_string hu h
 exact ⟨n, rfl, by unfold maxLen at hs; omega⟩
theorem list_of {α : Type} (n : Nat) (Q : Nat → α → Prop) (h : ∀ i, i < n → ∃ y, Q i y) : ∃ ys : List α, ys.length = n ∧ ∀ j p, ys[j]? = some p → Q j p := by
 induction n with
 | zero => exact ⟨[], rfl, fun j p h => by simp at h⟩
 | succ n ih =>
  obtain ⟨ys, hl, hy⟩ := ih (fun i hi => h i (by omega))
  obtain ⟨y, hq⟩ := h n (by omega)
  refine ⟨ys ++ [y], by simp [hl], fun j p hj => ?_⟩
  rcases Nat.lt_or_ge j n with hlt | hge
  ·rw [List.getElem?_append_left (by omega)] at hj
   exact hy j p hj
  ·have hj' : j = n := by
    have := (List.getElem?_eq_some_iff.1 hj).1
    rw [List.length_append, List.length_singleton] at this
    omega
   subst hj'
   have : y = p := by rw [List.getElem?_append_right (by omega), hl, Nat.sub_self] at hj; simpa using hj
   subst this
   exact hq
theorem opens_slice {t e : TypeId} {α : Type} {d : Kd α} {ok : α → Prop} (hu : P.underlying t = some (.slice e)) (he : Opens P e d ok) (hc : P.cellsOf e = d.sz) (n : Nat) : Opens P t (Kd.slice n d) (fun ys => ∀ y ∈ ys, ok y) := by
 intro H enc w base spare held fuel cs x h
 rcases open_slice hu h with ⟨rfl, _⟩ | ⟨a, len, cap, m, n', D, Pl, rfl, _, hl, hm, hmm, _, hel⟩
 ·exact ⟨[], ⟨none, 0, rfl, Nat.le_refl _, rfl, by simp, fun h => by simp at h⟩, fun y hy => by cases hy⟩
 ·have hlm : len ≤ m := by
   rw [hmm]
   split <;> omega
  obtain ⟨ys, hy, hq⟩ := list_of len (fun i y => ok y ∧ ∃ cs', w.cells? base (a.add (i * P.cellsOf e)) (P.cellsOf e) = some cs' ∧ d.K w y cs') (fun i hi => by
   obtain ⟨cs', h1, h2⟩ := hel i (by omega)
   obtain ⟨y, hy, hok⟩ := he _ enc w base spare held n' cs' _ h2
   exact ⟨y, hok, cs', h1, hy⟩)
  subst hy
  refine ⟨ys, ⟨some a, cap, rfl, hl, rfl, by unfold maxLen at hm; omega, fun _ => ⟨a, rfl, fun j p hj => ?_⟩⟩, fun y hy => ?_⟩
  ·obtain ⟨_, cs', h1, h2⟩ := hq j p hj
   obtain ⟨_, h3, h4⟩ := World.cells?_some h1
   refine ⟨cs', h3.trans hc, h2, fun i u hi => ?_⟩
   have hi' : i < P.cellsOf e := by
    have := (List.getElem?_eq_some_iff.1 hi).1
    omega
   have := h4 i hi'
   rw [Addr.add_add, hc] at this
   rw [this]
   exact hi
  ·obtain ⟨j, hj, rfl⟩ := List.getElem_of_mem hy
   exact (hq j _ (List.getElem?_eq_getElem hj)).1
def Parts {α : Type} (P : Program) (fs : List Field) (o : Nat) (d : Kd α) (ok : α → Prop) : Prop :=
 ∀ (H : Type) (enc : TypeId × Value → H) (w : World) (base : Nat) (spare : Nat → Bool) (held : Bool) (fuel : Nat) (cs : List Value), cs.length = o + d.sz →
  (∀ f ∈ fs, ∃ x : DataW H × List MemPlace, DataW.trod enc P w base spare held fuel f.type ((cs.drop f.offset).take (P.cellsOf f.type)) = some x) → ∃ y : α, d.K w y (cs.drop o) ∧ ok y
theorem parts_last {α : Type} {d : Kd α} {ok : α → Prop} {f : Field} {o : Nat} (hf : Opens P f.type d ok) (ho : f.offset = o) (hc : P.cellsOf f.type = d.sz) : Parts P [f] o d ok := by
 intro H enc w base spare held fuel cs hl h
 obtain ⟨x, hx⟩ := h f (by simp)
 rw [ho, hc, List.take_of_length_le (by rw [List.length_drop]; omega)] at hx
 exact hf _ enc w base spare held fuel _ x hx
theorem parts_cons {α β : Type} {d : Kd α} {ds : Kd β} {ok : α → Prop} {oks : β → Prop} {f : Field} {fs : List Field} {o o' : Nat} (hf : Opens P f.type d ok) (ho : f.offset = o) (hc : P.cellsOf f.type = d.sz) (hs : Parts P fs o' ds oks) (ho' : o' = o + d.sz) : Parts P (f :: fs) o (Kd.pair d ds) (fun p => ok p.1 ∧ oks p.2) := by
 intro H enc w base spare held fuel cs hl h
 subst ho'
 have hl' : cs.length = o + (d.sz + ds.sz) := hl
 obtain ⟨x, hx⟩ := h f (by simp)
 rw [ho, hc] at hx
 obtain ⟨y, hy, oy⟩ := hf _ enc w base spare held fuel _ x hx
 obtain ⟨z, hz, oz⟩ := hs _ enc w base spare held fuel cs (by omega) (fun g hg => h g (by simp [hg]))
 refine ⟨(y, z), ⟨(cs.drop o).take d.sz, cs.drop (o + d.sz), ?_, hy, hz⟩, oy, oz⟩
 rw [← List.drop_drop]
 exact (List.take_append_drop _ _).symm
theorem opens_struct {t : TypeId} {fs : Array Field} {α β : Type} {d : Kd α} {ok : α → Prop} (hu : P.underlying t = some (.struct fs)) (hp : Parts P fs.toList 0 d ok) (hc : P.cellsOf t = d.sz) (f : β → α) (g : α → β) (hg : ∀ y, f (g y) = y) : Opens P t (Kd.iso d f) (fun y => ok (f y)) := by
 intro H enc w base spare held fuel cs x h
 obtain ⟨xs, n, _, _, hl, hlen, hi⟩ := DataW.trod_struct hu h
 obtain ⟨y, hy, oy⟩ := hp _ enc w base spare held n cs (by omega) (fun fl hfl => by
  obtain ⟨i, hlt, he⟩ := List.getElem_of_mem hfl
  have hlt' : i < fs.size := by simpa using hlt
  have := hi i fl (by rw [Array.getElem?_eq_getElem hlt']; simpa using he)
  rw [List.getElem?_eq_getElem (by omega)] at this
  exact ⟨_, this⟩)
 refine ⟨g y, ?_, ?_⟩
 ·show d.K w (f (g y)) cs
  rw [hg]
  simpa using hy
 ·show ok (f (g y))
  rw [hg]
  exact oy
theorem arg_struct {t : TypeId} {fs : Array Field} {α : Type} {d : Kd α} {ok : α → Prop} (hu : P.underlying t = some (.struct fs)) (ho : Opens P t d ok) {H : Type} {enc : TypeId × Value → H} {w : World} {base b0 : Nat} {spare : Nat → Bool} {held : Bool} {r : Reach} {v : Value} {x : DataW H} {p : List MemPlace}
  (hv : Value.okWide P w r b0 t v) (h : DataW.Trod enc P w base spare held t v x p) : ∃ (y : α) (cs : List Value), v = .agg cs.toArray ∧ d.K w y cs ∧ ok y := by
 obtain ⟨cs, rfl, _⟩ := okWide_struct hu hv
 obtain ⟨fuel, hf⟩ := h
 obtain ⟨y, hy, oy⟩ := ho _ enc w base spare held fuel _ _ hf
 exact ⟨y, cs.toList, by simp, by simpa [Value.cells] using hy, oy⟩
end Go.Proofs.Ytapholbdjccapaa.Opened
