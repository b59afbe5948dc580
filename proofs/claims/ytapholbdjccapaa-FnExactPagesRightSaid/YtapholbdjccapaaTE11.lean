import Derived.Test.YtapholbdjccapaaTE10
import Derived.Shelf.Sort.Plain
import Derived.Ground.Names2Prog
import Derived.Shelf.Slices.In.SortNone
import Derived.Sort.OwnSortedInts
set_option maxHeartbeats 64000000
set_option maxRecDepth 100000
set_option linter.unusedVariables false
set_option linter.unusedSimpArgs false
namespace Go.Proofs.Ytapholbdjccapaa.PFnExactTreeOk
open Go.RowKit Go.Proofs.YtapholbdjccapaaW.PrintWords Go.Proofs.YtapholbdjccapaaW.PrintLast Go.Proofs.YtapholbdjccapaaW.PrintMore
attribute [local go_sem] max2_int min2_int max_two min_two max_three min_three max_four min_four
def laws_eqStringS.l0 : Nat → List ByteArray → List ByteArray → Int → Option (Bool)
 | 0, _, _, _ => none
 | k + 1, x0, x1, x5 => if x5 < (x0.length : Int) then (if 0 ≤ x5 then (if x5 < (x1.length : Int) then (if (rdOf ByteArray.empty x0 x5).toList = (rdOf ByteArray.empty x1 x5).toList then (laws_eqStringS.l0 k x0 x1 (wrap64 (x5 + 1))) else (none)) else (none)) else (none)) else (some true)
def laws_eqStringS.f (k : Nat) (l0 : List ByteArray) (l1 : List ByteArray) : Option (Bool) := if (l0.length : Int) = (l1.length : Int) then (laws_eqStringS.l0 k l0 l1 0) else (none)
theorem laws_eqStringS.mono_l : ∀ k, (∀ y0 y1 y2, LeO (laws_eqStringS.l0 k y0 y1 y2) (laws_eqStringS.l0 (k + 1) y0 y1 y2))
 | 0 => fun _ _ _ r h => by simp [laws_eqStringS.l0] at h
 | k + 1 => by
  have ih0 := laws_eqStringS.mono_l k
  ·intro y0 y1 y2
   unfold laws_eqStringS.l0
   repeat' first
   | (with_reducible exact ih0 _ _ _)
   | (with_reducible exact LeO.refl _)
   | (with_reducible exact LeO.none _)
   | (with_reducible refine LeO.ite ?_ ?_)
   | (with_reducible refine LeO.bind ?_ (fun _ => ?_))
   | exact ih0 _ _ _
theorem laws_eqStringS.mono : ∀ a0 a1 k, LeO (laws_eqStringS.f k a0 a1) (laws_eqStringS.f (k + 1) a0 a1) := by
 intro a0 a1 k
 have ih0 := laws_eqStringS.mono_l k
 unfold laws_eqStringS.f
 repeat' first
   | (with_reducible exact ih0 _ _ _)
   | (with_reducible exact LeO.refl _)
   | (with_reducible exact LeO.none _)
   | (with_reducible refine LeO.ite ?_ ?_)
   | (with_reducible refine LeO.bind ?_ (fun _ => ?_))
   | exact ih0 _ _ _
theorem laws_eqStringS.calls (k : Nat) (A0 : Option Addr) (c0 : Nat) (l0 : List ByteArray) (A1 : Option Addr) (c1 : Nat) (l1 : List ByteArray) (r : Bool) (w : World) (hr0 : Kd.C Kd.string w A0 l0.length l0) (hc0 : l0.length ≤ c0) (hr1 : Kd.C Kd.string w A1 l1.length l1) (hc1 : l1.length ≤ c1) (h : laws_eqStringS.f k l0 l1 = some r) :
  Calls Try.prog 103 #[.slice A0 l0.length c0, .slice A1 l1.length c1] w fun e w' => e = .returned (.bool r) ∧ Drawn0 w w' := by
 have HR0 := Aside0.mk hr0
 have HC0 := Aside0.mk hc0
 clear hr0 hc0
 have HR1 := Aside0.mk hr1
 have HC1 := Aside0.mk hc1
 clear hr1 hc1
 have H : (if (l0.length : Int) = (l1.length : Int) then (laws_eqStringS.l0 k l0 l1 0) else (none)) = some r := h
 clear h
 by_cases c3 : (l0.length : Int) = (l1.length : Int)
 ·rw [if_pos c3] at H
  have c3b0 : ((l0.length : Int) == (l1.length : Int)) = true := beq_iff_eq.mpr c3
  have c3b1 : ((l0.length : Int) != (l1.length : Int)) = false := bne_eq_false_iff_eq.mpr c3
  have c3b2 : (l0.length == l1.length) = true := by first | simpa using c3 | (simp at c3 ⊢; omega)
  clear c3
  have H' := Aside0.mk H
  clear H
  go_enter Try.func103, Try.ntmps103
  go_wp2
  repeat (go_quiet (fail); try go_wp2)
  go_loopg [5] k (fun kq v5 w' => ∃ (x5_1 : Int), v5 = .int .i64 x5_1 ∧ Aside0 (laws_eqStringS.l0 kq l0 l1 x5_1 = some r) ∧ Aside0 (kq ≤ k) ∧ Drawn0 w w')
  case atStart => exact ⟨(0), (by first | rfl | (simp; done) | (simp [*]; done)), H', ⟨Nat.le_refl _⟩, by repeat (first | exact Drawn0.refl _ | apply Drawn0.step)⟩
  case round =>
   clear H'
   try clear c1
   try clear c3
   try clear c3b0
   try clear c3b1
   try clear c3b2
   obtain ⟨x5_1, rfl, HA, HK1, ⟨m1, rfl⟩⟩ := hrel
   cases gk with
   | zero => exact absurd HA.out (by simp [laws_eqStringS.l0])
   | succ k1 =>
    have H := HA.out
    clear HA
    simp only [laws_eqStringS.l0] at H
    by_cases c4 : x5_1 < (l0.length : Int)
    ·rw [if_pos c4] at H
     have c4b0 : decide (x5_1 < (l0.length : Int)) = true := decide_eq_true c4
     clear c4
     by_cases c5 : 0 ≤ x5_1
     ·rw [if_pos c5] at H
      have c5b0 : decide (0 ≤ x5_1) = true := decide_eq_true c5
      clear c5
      by_cases c6 : x5_1 < (l1.length : Int)
      ·rw [if_pos c6] at H
       have c6b0 : decide (x5_1 < (l1.length : Int)) = true := decide_eq_true c6
       clear c6
       by_cases c7 : (rdOf ByteArray.empty l0 x5_1).toList = (rdOf ByteArray.empty l1 x5_1).toList
       ·rw [if_pos c7] at H
        have c7b0 : ((rdOf ByteArray.empty l0 x5_1).toList == (rdOf ByteArray.empty l1 x5_1).toList) = true := beq_iff_eq.mpr c7
        have c7b1 : ((rdOf ByteArray.empty l0 x5_1).toList != (rdOf ByteArray.empty l1 x5_1).toList) = false := bne_eq_false_iff_eq.mpr c7
        clear c7
        have H' := Aside0.mk H
        clear H
        have p249 : 0 ≤ (x5_1 : Int) := of_decide_eq_true (by with_reducible assumption)
        have q249 : x5_1 < (l0.length : Int) := of_decide_eq_true (by with_reducible assumption)
        obtain ⟨ad249, e249, hx249_0⟩ := Kd.at_string HR0.out x5_1 p249 q249
        cases e249
        replace p249 := eq_true p249
        replace q249 := eq_true q249
        have p250 : 0 ≤ (x5_1 : Int) := of_decide_eq_true (by with_reducible assumption)
        have q250 : x5_1 < (l1.length : Int) := of_decide_eq_true (by with_reducible assumption)
        obtain ⟨ad250, e250, hx250_0⟩ := Kd.at_string HR1.out x5_1 p250 q250
        cases e250
        replace p250 := eq_true p250
        replace q250 := eq_true q250
        go_wp2
        repeat (go_quiet (fail); try go_wp2)
        go_roundg k1
        case measure => have := HK1.out; omega
        case rel => exact ⟨(wrap64 (x5_1 + 1)), (by first | rfl | (simp; done) | (simp [*]; done)), H', ⟨by have := HK1.out; omega⟩, by repeat (first | exact Drawn0.refl _ | apply Drawn0.step)⟩
       ·rw [if_neg c7] at H
        exact absurd H (by simp)
      ·rw [if_neg c6] at H
       exact absurd H (by simp)
     ·rw [if_neg c5] at H
      exact absurd H (by simp)
    ·rw [if_neg c4] at H
     have c4b0 : decide (x5_1 < (l0.length : Int)) = false := decide_eq_false c4
     clear c4
     obtain rfl := Option.some.inj H
     go_wp2
     repeat (go_quiet (fail); try go_wp2)
     go_ret
     exact ⟨by first | rfl | (simp; done) | (simp [*]; done), by repeat (first | exact Drawn0.refl _ | apply Drawn0.step)⟩
 ·rw [if_neg c3] at H
  exact absurd H (by simp)
def laws_eqPut.f (a0_0 : Int) (a0_1 : ByteArray) (a1_0 : Int) (a1_1 : ByteArray) : Option (Bool) := if a0_0 = a1_0 then (if a0_1.toList = a1_1.toList then (some true) else (none)) else (none)
theorem laws_eqPut.calls (a0_0 : Int) (a0_1 : ByteArray) (a1_0 : Int) (a1_1 : ByteArray) (r : Bool) (w : World) (h : laws_eqPut.f a0_0 a0_1 a1_0 a1_1 = some r) :
  Calls Try.prog 144 #[.agg #[.int .i64 a0_0, .string a0_1], .agg #[.int .i64 a1_0, .string a1_1]] w fun e w' => e = .returned (.bool r) ∧ Below w.heap.size w w' := by
 have hu189 := Try.underlying189
 have HB := Aside0.mk (Below.refl w.heap.size w)
 have H : (if a0_0 = a1_0 then (if a0_1.toList = a1_1.toList then (some true) else (none)) else (none)) = some r := h
 clear h
 by_cases c3 : a0_0 = a1_0
 ·rw [if_pos c3] at H
  have c3b0 : (a0_0 == a1_0) = true := beq_iff_eq.mpr c3
  have c3b1 : (a0_0 != a1_0) = false := bne_eq_false_iff_eq.mpr c3
  clear c3
  by_cases c4 : a0_1.toList = a1_1.toList
  ·rw [if_pos c4] at H
   have c4b0 : (a0_1.toList == a1_1.toList) = true := beq_iff_eq.mpr c4
   have c4b1 : (a0_1.toList != a1_1.toList) = false := bne_eq_false_iff_eq.mpr c4
   clear c4
   obtain rfl := Option.some.inj H
   go_enter Try.func144, Try.ntmps144
   go_wp2_with (first | ((with_reducible refine gate_dst (N := 2) rfl ?_); refine box_event ?hg (N := 2) ?hd (cs := #[.int .i64 a0_0, .string a0_1]) (t := 189) ?hr ?_; (case hd => rfl); (case hg => rfl); (case hr => first | (go_simp; done) | (go_simp; rfl)); intro gb251 hg w5 hbox hb; have n0_ := Aside0.mk (below_step (by repeat (first | (with_reducible first | exact HB.out | apply below_alloc | apply pw_below_drewN | apply below_drew1) | exact HB.out)) hb); have n1_ := Aside0.mk (hbox); have n2_ := Aside0.mk ((by rw [hg]; exact (below_size (by repeat (first | (with_reducible first | exact HB.out | apply below_alloc | apply pw_below_drewN | apply below_drew1) | exact HB.out))) : w.heap.size ≤ gb251)); have n3_ := Aside0.mk ((by rw [hg]; exact (below_size (by repeat (first | (with_reducible first | exact HB.out | apply below_alloc | apply pw_below_drewN | apply below_drew1) | exact HB.out))) : w.heap.size ≤ gb251)); clear HB; have HB := n0_; have BK251 := n1_; have GW251 := n2_; have GE251 := n3_; clear n0_ n1_ n2_ n3_; clear hb hbox hg) | ((with_reducible refine gate_dst (N := 3) rfl ?_); refine box_event ?hg (N := 3) ?hd (cs := #[.int .i64 a1_0, .string a1_1]) (t := 189) ?hr ?_; (case hd => rfl); (case hg => rfl); (case hr => first | (go_simp; done) | (go_simp; rfl)); intro gb252 hg w6 hbox hb; have n0_ := Aside0.mk (blk_below (g := gb251) (o := .cells #[.int .i64 a0_0, .string a0_1] 189 (0, 0)) (by (with_reducible repeat (first | refine blk_drewN ?_ _ | refine blk_drew ?_ | refine blk_alloc ?_ _)); exact BK251.out) hb); have n1_ := Aside0.mk (below_step (by repeat (first | (with_reducible first | exact HB.out | apply below_alloc | apply pw_below_drewN | apply below_drew1 | refine below_set ?_ GE251.out) | exact HB.out)) hb); have n2_ := Aside0.mk (hbox); have n3_ := Aside0.mk ((by rw [hg]; exact (below_size (by repeat (first | (with_reducible first | exact HB.out | apply below_alloc | apply pw_below_drewN | apply below_drew1 | refine below_set ?_ GE251.out) | exact HB.out))) : w.heap.size ≤ gb252)); have n4_ := Aside0.mk ((by rw [hg]; exact (below_size (by repeat (first | (with_reducible first | exact HB.out | apply below_alloc | apply pw_below_drewN | apply below_drew1 | refine below_set ?_ GE251.out) | exact HB.out))) : w.heap.size ≤ gb252)); have n5_ := Aside0.mk ((by rw [hg]; exact Nat.ne_of_lt (blk_lt (g := gb251) (o := .cells #[.int .i64 a0_0, .string a0_1] 189 (0, 0)) (by (with_reducible repeat (first | refine blk_drewN ?_ _ | refine blk_drew ?_ | refine blk_alloc ?_ _)); exact BK251.out)) : gb251 ≠ gb252)); have n6_ := Aside0.mk ((by rw [hg]; exact Nat.ne_of_gt (blk_lt (g := gb251) (o := .cells #[.int .i64 a0_0, .string a0_1] 189 (0, 0)) (by (with_reducible repeat (first | refine blk_drewN ?_ _ | refine blk_drew ?_ | refine blk_alloc ?_ _)); exact BK251.out)) : gb252 ≠ gb251)); clear BK251; clear HB; have BK251 := n0_; have HB := n1_; have BK252 := n2_; have GW252 := n3_; have GE252 := n4_; have NB251_252 := n5_; have NB252_251 := n6_; clear n0_ n1_ n2_ n3_ n4_ n5_ n6_; clear hb hbox hg; have hnb7 := NB251_252.out; have hnc7 := NB252_251.out; have hcz8_0 : w6.cell? ⟨gb251, 0, none⟩ = some (.int .i64 a0_0) := (blk_cell BK251.out 0).trans rfl; have hcz8_1 : w6.cell? ⟨gb251, 1, none⟩ = some (.string a0_1) := (blk_cell BK251.out 1).trans rfl; have hfz8_0 := blk_frozen BK251.out 0; have hfz8_1 := blk_frozen BK251.out 1; have hcz9_0 : w6.cell? ⟨gb252, 0, none⟩ = some (.int .i64 a1_0) := (blk_cell BK252.out 0).trans rfl; have hcz9_1 : w6.cell? ⟨gb252, 1, none⟩ = some (.string a1_1) := (blk_cell BK252.out 1).trans rfl; have hfz9_0 := blk_frozen BK252.out 0; have hfz9_1 := blk_frozen BK252.out 1))
   go_ret
   exact ⟨by first | rfl | (simp [errW_none, errW_some] <;> rfl) | (simp [*, errW_none, errW_some] <;> rfl), by repeat (first | (with_reducible first | exact HB.out | apply below_alloc | apply pw_below_drewN | apply below_drew1 | refine below_set ?_ GE251.out | refine below_set ?_ GE252.out) | exact HB.out)⟩
  ·rw [if_neg c4] at H
   exact absurd H (by simp)
 ·rw [if_neg c3] at H
  exact absurd H (by simp)
def laws_eqPutS.l0 : Nat → List (S189) → List (S189) → Int → Option (Bool)
 | 0, _, _, _ => none
 | k + 1, x0, x1, x5 => if x5 < (x0.length : Int) then (if 0 ≤ x5 then (if x5 < (x1.length : Int) then ((laws_eqPut.f ((rd_T189 x0 x5).f0) ((rd_T189 x0 x5).f1) ((rd_T189 x1 x5).f0) ((rd_T189 x1 x5).f1)).bind fun t255 => (if t255 = true then (laws_eqPutS.l0 k x0 x1 (wrap64 (x5 + 1))) else (none))) else (none)) else (none)) else (some true)
def laws_eqPutS.f (k : Nat) (l0 : List (S189)) (l1 : List (S189)) : Option (Bool) := if (l0.length : Int) = (l1.length : Int) then (laws_eqPutS.l0 k l0 l1 0) else (none)
theorem laws_eqPutS.mono_l : ∀ k, (∀ y0 y1 y2, LeO (laws_eqPutS.l0 k y0 y1 y2) (laws_eqPutS.l0 (k + 1) y0 y1 y2))
 | 0 => fun _ _ _ r h => by simp [laws_eqPutS.l0] at h
 | k + 1 => by
  have ih0 := laws_eqPutS.mono_l k
  ·intro y0 y1 y2
   unfold laws_eqPutS.l0
   repeat' first
   | (with_reducible exact ih0 _ _ _)
   | (with_reducible exact LeO.refl _)
   | (with_reducible exact LeO.none _)
   | (with_reducible refine LeO.ite ?_ ?_)
   | (with_reducible refine LeO.bind ?_ (fun _ => ?_))
   | exact ih0 _ _ _
theorem laws_eqPutS.mono : ∀ a0 a1 k, LeO (laws_eqPutS.f k a0 a1) (laws_eqPutS.f (k + 1) a0 a1) := by
 intro a0 a1 k
 have ih0 := laws_eqPutS.mono_l k
 unfold laws_eqPutS.f
 repeat' first
   | (with_reducible exact ih0 _ _ _)
   | (with_reducible exact LeO.refl _)
   | (with_reducible exact LeO.none _)
   | (with_reducible refine LeO.ite ?_ ?_)
   | (with_reducible refine LeO.bind ?_ (fun _ => ?_))
   | exact ih0 _ _ _
def laws_eqPutS.T6 : Bool × List (List Nat × List Nat) := (true, [([], []), ([], []), ([0, 1], [0, 1]), ([2], [2]), ([], []), ([], []), ([4, 5], [4, 5]), ([6], [6]), ([3, 7], [3, 7]), ([8], [8])])
def laws_eqPutS.B6 : List Nat := [0, 0, 3, 7, 0, 0, 48, 112, 255, 511]
theorem laws_eqPutS.tab6 : rtab .any (opsOf Try.f104 6) = laws_eqPutS.T6 := by kernel_rfl
theorem laws_eqPutS.bits6 : waitsOk laws_eqPutS.T6.2 laws_eqPutS.B6 = true := by kernel_rfl
theorem laws_eqPutS.calls (k : Nat) (A0 : Option Addr) (c0 : Nat) (l0 : List (S189)) (A1 : Option Addr) (c1 : Nat) (l1 : List (S189)) (r : Bool) (w : World) (hr0 : Kd.C k189 w A0 l0.length l0) (hc0 : l0.length ≤ c0) (hr1 : Kd.C k189 w A1 l1.length l1) (hc1 : l1.length ≤ c1) (h : laws_eqPutS.f k l0 l1 = some r) :
  Calls Try.prog 104 #[.slice A0 l0.length c0, .slice A1 l1.length c1] w fun e w' => e = .returned (.bool r) ∧ Below w.heap.size w w' := by
 have hu189 := Try.underlying189
 have HR0 := Aside0.mk hr0
 have HC0 := Aside0.mk hc0
 clear hr0 hc0
 have HR1 := Aside0.mk hr1
 have HC1 := Aside0.mk hc1
 clear hr1 hc1
 have HB := Aside0.mk (Below.refl w.heap.size w)
 have H : (if (l0.length : Int) = (l1.length : Int) then (laws_eqPutS.l0 k l0 l1 0) else (none)) = some r := h
 clear h
 by_cases c3 : (l0.length : Int) = (l1.length : Int)
 ·rw [if_pos c3] at H
  have c3b0 : ((l0.length : Int) == (l1.length : Int)) = true := beq_iff_eq.mpr c3
  have c3b1 : ((l0.length : Int) != (l1.length : Int)) = false := bne_eq_false_iff_eq.mpr c3
  have c3b2 : (l0.length == l1.length) = true := by first | simpa using c3 | (simp at c3 ⊢; omega)
  clear c3
  have H' := Aside0.mk H
  clear H
  go_enter Try.func104, Try.ntmps104
  go_wp2
  go_loopg [5] k (fun kq v5 w' => ∃ (x5_1 : Int), v5 = .int .i64 x5_1 ∧ Aside0 (laws_eqPutS.l0 kq l0 l1 x5_1 = some r) ∧ Aside0 (kq ≤ k) ∧ Aside0 (Below w.heap.size w w'))
  case atStart => exact ⟨(0), (by first | rfl | (simp; done) | (simp [*]; done)), H', ⟨Nat.le_refl _⟩, ⟨by repeat (first | (with_reducible first | exact HB.out | apply below_alloc | apply pw_below_drewN | apply below_drew1) | exact HB.out)⟩⟩
  case round =>
   clear H'
   try clear c1
   try clear c3
   try clear c3b0
   try clear c3b1
   try clear c3b2
   obtain ⟨x5_1, rfl, HA, HK1, HB⟩ := hrel
   cases gk with
   | zero => exact absurd HA.out (by simp [laws_eqPutS.l0])
   | succ k1 =>
    have H := HA.out
    clear HA
    simp only [laws_eqPutS.l0] at H
    by_cases c4 : x5_1 < (l0.length : Int)
    ·rw [if_pos c4] at H
     have c4b0 : decide (x5_1 < (l0.length : Int)) = true := decide_eq_true c4
     clear c4
     by_cases c5 : 0 ≤ x5_1
     ·rw [if_pos c5] at H
      have c5b0 : decide (0 ≤ x5_1) = true := decide_eq_true c5
      clear c5
      by_cases c6 : x5_1 < (l1.length : Int)
      ·rw [if_pos c6] at H
       have c6b0 : decide (x5_1 < (l1.length : Int)) = true := decide_eq_true c6
       clear c6
       replace H := Option.bind_eq_some_iff.mp H
       obtain ⟨t255, A70, H⟩ := H
       replace H : (if t255 = true then (laws_eqPutS.l0 k1 l0 l1 (wrap64 (x5_1 + 1))) else (none)) = some r := H
       have A7 := Aside0.mk A70
       clear A70
       by_cases c8 : t255 = true
       ·subst c8
        have H1 : (laws_eqPutS.l0 k1 l0 l1 (wrap64 (x5_1 + 1))) = some r := by rw [if_pos rfl] at H; exact H
        clear H
        have H := H1
        clear H1
        have H' := Aside0.mk H
        clear H
        try go_wp2
        have n0_ := Aside0.mk (below_drew1 HB.out)
        clear HB
        have HB := n0_
        clear n0_
        have p253 : 0 ≤ (x5_1 : Int) := of_decide_eq_true (by with_reducible assumption)
        have q253 : x5_1 < (l0.length : Int) := of_decide_eq_true (by with_reducible assumption)
        obtain ⟨ad253, e253, hx253_0, hx253_1⟩ := at_T189 HR0.out x5_1 p253 q253
        have hw253_1 := hx253_1
        have hw253_0 := hx253_0
        cases e253
        replace hx253_0 := (HB.out.cell (World.block_lt_of_cell? w _ hx253_0)).trans hx253_0
        replace hx253_1 := (HB.out.cell (World.block_lt_of_cell? w _ hx253_1)).trans hx253_1
        replace p253 := eq_true p253
        replace q253 := eq_true q253
        have p254 : 0 ≤ (x5_1 : Int) := of_decide_eq_true (by with_reducible assumption)
        have q254 : x5_1 < (l1.length : Int) := of_decide_eq_true (by with_reducible assumption)
        obtain ⟨ad254, e254, hx254_0, hx254_1⟩ := at_T189 HR1.out x5_1 p254 q254
        have hw254_1 := hx254_1
        have hw254_0 := hx254_0
        cases e254
        replace hx254_0 := (HB.out.cell (World.block_lt_of_cell? w _ hx254_0)).trans hx254_0
        replace hx254_1 := (HB.out.cell (World.block_lt_of_cell? w _ hx254_1)).trans hx254_1
        replace p254 := eq_true p254
        replace q254 := eq_true q254
        refine start_ (n := 10) (S := fun w' => w'.cell? (ad253.add ((x5_1).toNat * 2)) = some (.int .i64 ((rd_T189 l0 x5_1).f0)) ∧ w'.cell? ⟨(ad253.add ((x5_1).toNat * 2)).block, (ad253.add ((x5_1).toNat * 2)).off + 1, none⟩ = some (.string ((rd_T189 l0 x5_1).f1)) ∧ w'.cell? (ad254.add ((x5_1).toNat * 2)) = some (.int .i64 ((rd_T189 l1 x5_1).f0)) ∧ w'.cell? ⟨(ad254.add ((x5_1).toNat * 2)).block, (ad254.add ((x5_1).toNat * 2)).off + 1, none⟩ = some (.string ((rd_T189 l1 x5_1).f1))) (ds := []) #[false, false, false, false, false, false, false, false, false, false] (by kernel_rfl) rfl rfl ⟨((HB.out.cell (World.block_lt_of_cell? w _ hw253_0)).trans hw253_0), ((HB.out.cell (World.block_lt_of_cell? w _ hw253_1)).trans hw253_1), ((HB.out.cell (World.block_lt_of_cell? w _ hw254_0)).trans hw254_0), ((HB.out.cell (World.block_lt_of_cell? w _ hw254_1)).trans hw254_1)⟩ (fun hHeld => ?_); refine with_tabW laws_eqPutS.tab6 laws_eqPutS.bits6 (fun HT_ HW_ => ?_)
        generalize wr.drew = w9 at HB hx253_0 hx253_1 hx254_0 hx254_1 hHeld ⊢
        refine pure_ (i := 0) (N := some 17) (v := ?_) (a' := ?_) #[true, false, false, false, false, false, false, false, false, false] rfl rfl (any_of HT_.out (by kernel_rfl)) (fun _ _ _ h => h) (Or.inl ⟨by rfl, ?_⟩) ?_ ?_
        rotate_left
        ·intro w'
         go_simp
         with_reducible rfl
        rotate_left
        ·simp only [Act.put, List.setIfInBounds_toArray, List.set_cons_zero, List.set_cons_succ, i64_w, i32_w]
         rfl
        refine pure_ (i := 1) (N := some 18) (v := ?_) (a' := ?_) #[true, true, false, false, false, false, false, false, false, false] rfl rfl (any_of HT_.out (by kernel_rfl)) (fun _ _ _ h => h) (Or.inl ⟨by rfl, ?_⟩) ?_ ?_
        rotate_left
        ·intro w'
         go_simp
         with_reducible rfl
        rotate_left
        ·simp only [Act.put, List.setIfInBounds_toArray, List.set_cons_zero, List.set_cons_succ, i64_w, i32_w]
         rfl
        refine pure_ (i := 2) (N := some 19) (v := ?_) (a' := ?_) #[true, true, true, false, false, false, false, false, false, false] rfl rfl (any_of HT_.out (by kernel_rfl)) (fun _ _ _ h => h) (Or.inl ⟨by rfl, ?_⟩) ?_ ?_
        rotate_left
        ·intro w'
         go_simp
         with_reducible rfl
        rotate_left
        ·simp only [Act.put, List.setIfInBounds_toArray, List.set_cons_zero, List.set_cons_succ, i64_w, i32_w]
         rfl
        refine pure_ (i := 4) (N := some 21) (v := ?_) (a' := ?_) #[true, true, true, false, true, false, false, false, false, false] rfl rfl (any_of HT_.out (by kernel_rfl)) (fun _ _ _ h => h) (Or.inl ⟨by rfl, ?_⟩) ?_ ?_
        rotate_left
        ·intro w'
         go_simp
         with_reducible rfl
        rotate_left
        ·simp only [Act.put, List.setIfInBounds_toArray, List.set_cons_zero, List.set_cons_succ, i64_w, i32_w]
         rfl
        refine pure_ (i := 5) (N := some 22) (v := ?_) (a' := ?_) #[true, true, true, false, true, true, false, false, false, false] rfl rfl (any_of HT_.out (by kernel_rfl)) (fun _ _ _ h => h) (Or.inl ⟨by rfl, ?_⟩) ?_ ?_
        rotate_left
        ·intro w'
         go_simp
         with_reducible rfl
        rotate_left
        ·simp only [Act.put, List.setIfInBounds_toArray, List.set_cons_zero, List.set_cons_succ, i64_w, i32_w]
         rfl
        refine pure_ (i := 6) (N := some 23) (v := ?_) (a' := ?_) #[true, true, true, false, true, true, true, false, false, false] rfl rfl (any_of HT_.out (by kernel_rfl)) (fun _ _ _ h => h) (Or.inl ⟨by rfl, ?_⟩) ?_ ?_
        rotate_left
        ·intro w'
         go_simp
         with_reducible rfl
        rotate_left
        ·simp only [Act.put, List.setIfInBounds_toArray, List.set_cons_zero, List.set_cons_succ, i64_w, i32_w]
         rfl
        refine take_ (i := 3) (N := some 20) (v := ?_) (a' := ?_) #[true, true, true, true, true, true, true, false, false, false] rfl rfl (take_ofW HT_.out HW_.out (by kernel_rfl)) (fun _ _ _ h => h) (Or.inl ⟨by rfl, ?_⟩) hHeld ?_ ?_
        rotate_left
        ·rintro w' ⟨s0, s1, s2, s3⟩
         go_simp
         with_reducible rfl
        rotate_left
        ·simp only [Act.put, List.setIfInBounds_toArray, List.set_cons_zero, List.set_cons_succ, i64_w, i32_w]
         rfl
        refine take_ (i := 7) (N := some 24) (v := ?_) (a' := ?_) #[true, true, true, true, true, true, true, true, false, false] rfl rfl (take_ofW HT_.out HW_.out (by kernel_rfl)) (fun _ _ _ h => h) (Or.inl ⟨by rfl, ?_⟩) hHeld ?_ ?_
        rotate_left
        ·rintro w' ⟨s0, s1, s2, s3⟩
         go_simp
         with_reducible rfl
        rotate_left
        ·simp only [Act.put, List.setIfInBounds_toArray, List.set_cons_zero, List.set_cons_succ, i64_w, i32_w]
         rfl
        refine one_ (i := 8) (N := some 25) #[true, true, true, true, true, true, true, true, true, false] rfl rfl (one_of HT_.out (by kernel_rfl)) (by decide) (fun K hK => ?_)
        refine goes_ Try.func144 (by kernel_rfl) rfl #[.agg #[.int .i64 ((rd_T189 l0 x5_1).f0), .string ((rd_T189 l0 x5_1).f1)], .agg #[.int .i64 ((rd_T189 l1 x5_1).f0), .string ((rd_T189 l1 x5_1).f1)]] (by rfl) rfl rfl (by (try simp only [List.map_toArray, List.map_cons, List.map_nil]); first | done | rfl | (simp only [List.length_drop, List.length_take]; rfl)) ?_
        with_reducible refine (laws_eqPut.calls ((rd_T189 l0 x5_1).f0) ((rd_T189 l0 x5_1).f1) ((rd_T189 l1 x5_1).f0) ((rd_T189 l1 x5_1).f1) true _ A7.out).mono ?_
        rintro e w10 ⟨rfl, hb⟩
        refine ⟨_, rfl, ?_⟩
        have n0_ := Aside0.mk (below_step (by repeat (first | (with_reducible first | exact HB.out | apply below_alloc | apply pw_below_drewN | apply below_drew1) | exact HB.out)) hb)
        clear HB
        have HB := n0_
        clear n0_
        (try clear hb)
        (try clear hb2)
        (try clear hk)
        (try clear hi)
        refine hK.out _ _ ⟨((HB.out.cell (World.block_lt_of_cell? w _ hw253_0)).trans hw253_0), ((HB.out.cell (World.block_lt_of_cell? w _ hw253_1)).trans hw253_1), ((HB.out.cell (World.block_lt_of_cell? w _ hw254_0)).trans hw254_0), ((HB.out.cell (World.block_lt_of_cell? w _ hw254_1)).trans hw254_1)⟩ (fun hHeld => ?_)
        clear hK K
        refine norm_ (a' := ?_) ?_ ?_
        rotate_left
        ·show Act.put _ (some 25) _ = _
         simp only [Act.put, List.setIfInBounds_toArray, List.set_cons_zero, List.set_cons_succ, i64_w, i32_w]
         rfl
        refine pure_ (i := 9) (N := some 26) (v := ?_) (a' := ?_) #[true, true, true, true, true, true, true, true, true, true] rfl rfl (any_of HT_.out (by kernel_rfl)) (fun _ _ _ h => h) (Or.inl ⟨by rfl, ?_⟩) ?_ ?_
        rotate_left
        ·intro w'
         go_simp
         with_reducible rfl
        rotate_left
        ·simp only [Act.put, List.setIfInBounds_toArray, List.set_cons_zero, List.set_cons_succ, i64_w, i32_w]
         rfl
        refine done_ (done_of HT_.out (by kernel_rfl)) ?_
        try go_wp2
        go_roundg k1
        case measure => have := HK1.out; omega
        case rel => exact ⟨(wrap64 (x5_1 + 1)), (by first | rfl | (simp; done) | (simp [*]; done)), H', ⟨by have := HK1.out; omega⟩, ⟨by repeat (first | (with_reducible first | exact HB.out | apply below_alloc | apply pw_below_drewN | apply below_drew1) | exact HB.out)⟩⟩
       ·replace c8 := Bool.eq_false_iff.mpr c8
        subst c8
        have H1 : (none) = some r := by rw [if_neg (show ¬ (false = true) by decide)] at H; exact H
        clear H
        have H := H1
        clear H1
        exact absurd H (by simp)
      ·rw [if_neg c6] at H
       exact absurd H (by simp)
     ·rw [if_neg c5] at H
      exact absurd H (by simp)
    ·rw [if_neg c4] at H
     have c4b0 : decide (x5_1 < (l0.length : Int)) = false := decide_eq_false c4
     clear c4
     obtain rfl := Option.some.inj H
     go_wp2
     go_ret
     exact ⟨by first | rfl | (simp [errW_none, errW_some] <;> rfl) | (simp [*, errW_none, errW_some] <;> rfl), by repeat (first | (with_reducible first | exact HB.out | apply below_alloc | apply pw_below_drewN | apply below_drew1) | exact HB.out)⟩
 ·rw [if_neg c3] at H
  exact absurd H (by simp)
def laws_eqDisk.f (k : Nat) (l0_0 : List ByteArray) (l0_1 : List (S189)) (l1_0 : List ByteArray) (l1_1 : List (S189)) : Option (Bool) := (laws_eqStringS.f k l0_0 l1_0).bind fun t258 => (if t258 = true then ((laws_eqPutS.f k l0_1 l1_1).bind fun t259 => (if t259 = true then (some true) else (none))) else (none))
theorem laws_eqDisk.mono : ∀ a0 a1 a2 a3 k, LeO (laws_eqDisk.f k a0 a1 a2 a3) (laws_eqDisk.f (k + 1) a0 a1 a2 a3) := by
 intro a0 a1 a2 a3 k
 unfold laws_eqDisk.f
 repeat' first
   | (with_reducible exact laws_eqPutS.mono _ _ _)
   | (with_reducible exact laws_eqStringS.mono _ _ _)
   | (with_reducible exact LeO.refl _)
   | (with_reducible exact LeO.none _)
   | (with_reducible refine LeO.ite ?_ ?_)
   | (with_reducible refine LeO.bind ?_ (fun _ => ?_))
   | exact laws_eqPutS.mono _ _ _
   | exact laws_eqStringS.mono _ _ _
theorem laws_eqDisk.calls (k : Nat) (A0_0 : Option Addr) (c0_0 : Nat) (l0_0 : List ByteArray) (A0_1 : Option Addr) (c0_1 : Nat) (l0_1 : List (S189)) (A1_0 : Option Addr) (c1_0 : Nat) (l1_0 : List ByteArray) (A1_1 : Option Addr) (c1_1 : Nat) (l1_1 : List (S189)) (r : Bool) (w : World) (hr0_0 : Kd.C Kd.string w A0_0 l0_0.length l0_0) (hc0_0 : l0_0.length ≤ c0_0) (hr0_1 : Kd.C k189 w A0_1 l0_1.length l0_1) (hc0_1 : l0_1.length ≤ c0_1) (hr1_0 : Kd.C Kd.string w A1_0 l1_0.length l1_0) (hc1_0 : l1_0.length ≤ c1_0) (hr1_1 : Kd.C k189 w A1_1 l1_1.length l1_1) (hc1_1 : l1_1.length ≤ c1_1) (h : laws_eqDisk.f k l0_0 l0_1 l1_0 l1_1 = some r) :
  Calls Try.prog 40 #[.agg #[.slice A0_0 l0_0.length c0_0, .slice A0_1 l0_1.length c0_1], .agg #[.slice A1_0 l1_0.length c1_0, .slice A1_1 l1_1.length c1_1]] w fun e w' => e = .returned (.bool r) ∧ Below w.heap.size w w' := by
 have hu41 := Try.underlying41
 have HR0_0 := Aside0.mk hr0_0
 have HC0_0 := Aside0.mk hc0_0
 clear hr0_0 hc0_0
 have HR0_1 := Aside0.mk hr0_1
 have HC0_1 := Aside0.mk hc0_1
 clear hr0_1 hc0_1
 have HR1_0 := Aside0.mk hr1_0
 have HC1_0 := Aside0.mk hc1_0
 clear hr1_0 hc1_0
 have HR1_1 := Aside0.mk hr1_1
 have HC1_1 := Aside0.mk hc1_1
 clear hr1_1 hc1_1
 have HB := Aside0.mk (Below.refl w.heap.size w)
 have H : ((laws_eqStringS.f k l0_0 l1_0).bind fun t258 => (if t258 = true then ((laws_eqPutS.f k l0_1 l1_1).bind fun t259 => (if t259 = true then (some true) else (none))) else (none))) = some r := h
 clear h
 replace H := Option.bind_eq_some_iff.mp H
 obtain ⟨t258, A30, H⟩ := H
 replace H : (if t258 = true then ((laws_eqPutS.f k l0_1 l1_1).bind fun t259 => (if t259 = true then (some true) else (none))) else (none)) = some r := H
 have A3 := Aside0.mk A30
 clear A30
 by_cases c4 : t258 = true
 ·subst c4
  have H1 : ((laws_eqPutS.f k l0_1 l1_1).bind fun t259 => (if t259 = true then (some true) else (none))) = some r := by rw [if_pos rfl] at H; exact H
  clear H
  have H := H1
  clear H1
  replace H := Option.bind_eq_some_iff.mp H
  obtain ⟨t259, A50, H⟩ := H
  replace H : (if t259 = true then (some true) else (none)) = some r := H
  have A5 := Aside0.mk A50
  clear A50
  by_cases c6 : t259 = true
  ·subst c6
   have H1 : (some true) = some r := by rw [if_pos rfl] at H; exact H
   clear H
   have H := H1
   clear H1
   obtain rfl := Option.some.inj H
   go_enter Try.func40, Try.ntmps40
   go_wp2_with (first | ((with_reducible refine gate_dst (N := 2) rfl ?_); refine box_event ?hg (N := 2) ?hd (cs := #[.slice A0_0 l0_0.length c0_0, .slice A0_1 l0_1.length c0_1]) (t := 41) ?hr ?_; (case hd => rfl); (case hg => rfl); (case hr => first | (go_simp; done) | (go_simp; rfl)); intro gb256 hg w7 hbox hb; have n0_ := Aside0.mk (below_step (by repeat (first | (with_reducible first | exact HB.out | apply below_alloc | apply pw_below_drewN | apply below_drew1) | exact HB.out)) hb); have n1_ := Aside0.mk (hbox); have n2_ := Aside0.mk ((by rw [hg]; exact (below_size (by repeat (first | (with_reducible first | exact HB.out | apply below_alloc | apply pw_below_drewN | apply below_drew1) | exact HB.out))) : w.heap.size ≤ gb256)); have n3_ := Aside0.mk ((by rw [hg]; exact (below_size (by repeat (first | (with_reducible first | exact HB.out | apply below_alloc | apply pw_below_drewN | apply below_drew1) | exact HB.out))) : w.heap.size ≤ gb256)); clear HB; have HB := n0_; have BK256 := n1_; have GW256 := n2_; have GE256 := n3_; clear n0_ n1_ n2_ n3_; clear hb hbox hg) | ((with_reducible refine gate_dst (N := 3) rfl ?_); refine box_event ?hg (N := 3) ?hd (cs := #[.slice A1_0 l1_0.length c1_0, .slice A1_1 l1_1.length c1_1]) (t := 41) ?hr ?_; (case hd => rfl); (case hg => rfl); (case hr => first | (go_simp; done) | (go_simp; rfl)); intro gb257 hg w8 hbox hb; have n0_ := Aside0.mk (blk_below (g := gb256) (o := .cells #[.slice A0_0 l0_0.length c0_0, .slice A0_1 l0_1.length c0_1] 41 (0, 0)) (by (with_reducible repeat (first | refine blk_drewN ?_ _ | refine blk_drew ?_ | refine blk_alloc ?_ _)); exact BK256.out) hb); have n1_ := Aside0.mk (below_step (by repeat (first | (with_reducible first | exact HB.out | apply below_alloc | apply pw_below_drewN | apply below_drew1 | refine below_set ?_ GE256.out) | exact HB.out)) hb); have n2_ := Aside0.mk (hbox); have n3_ := Aside0.mk ((by rw [hg]; exact (below_size (by repeat (first | (with_reducible first | exact HB.out | apply below_alloc | apply pw_below_drewN | apply below_drew1 | refine below_set ?_ GE256.out) | exact HB.out))) : w.heap.size ≤ gb257)); have n4_ := Aside0.mk ((by rw [hg]; exact (below_size (by repeat (first | (with_reducible first | exact HB.out | apply below_alloc | apply pw_below_drewN | apply below_drew1 | refine below_set ?_ GE256.out) | exact HB.out))) : w.heap.size ≤ gb257)); have n5_ := Aside0.mk ((by rw [hg]; exact Nat.ne_of_lt (blk_lt (g := gb256) (o := .cells #[.slice A0_0 l0_0.length c0_0, .slice A0_1 l0_1.length c0_1] 41 (0, 0)) (by (with_reducible repeat (first | refine blk_drewN ?_ _ | refine blk_drew ?_ | refine blk_alloc ?_ _)); exact BK256.out)) : gb256 ≠ gb257)); have n6_ := Aside0.mk ((by rw [hg]; exact Nat.ne_of_gt (blk_lt (g := gb256) (o := .cells #[.slice A0_0 l0_0.length c0_0, .slice A0_1 l0_1.length c0_1] 41 (0, 0)) (by (with_reducible repeat (first | refine blk_drewN ?_ _ | refine blk_drew ?_ | refine blk_alloc ?_ _)); exact BK256.out)) : gb257 ≠ gb256)); clear BK256; clear HB; have BK256 := n0_; have HB := n1_; have BK257 := n2_; have GW257 := n3_; have GE257 := n4_; have NB256_257 := n5_; have NB257_256 := n6_; clear n0_ n1_ n2_ n3_ n4_ n5_ n6_; clear hb hbox hg; have hnb9 := NB256_257.out; have hnc9 := NB257_256.out; have hcz10_0 : w8.cell? ⟨gb256, 0, none⟩ = some (.slice A0_0 l0_0.length c0_0) := (blk_cell BK256.out 0).trans rfl; have hcz10_1 : w8.cell? ⟨gb256, 1, none⟩ = some (.slice A0_1 l0_1.length c0_1) := (blk_cell BK256.out 1).trans rfl; have hfz10_0 := blk_frozen BK256.out 0; have hfz10_1 := blk_frozen BK256.out 1; have hcz11_0 : w8.cell? ⟨gb257, 0, none⟩ = some (.slice A1_0 l1_0.length c1_0) := (blk_cell BK257.out 0).trans rfl; have hcz11_1 : w8.cell? ⟨gb257, 1, none⟩ = some (.slice A1_1 l1_1.length c1_1) := (blk_cell BK257.out 1).trans rfl; have hfz11_0 := blk_frozen BK257.out 0; have hfz11_1 := blk_frozen BK257.out 1) | ((with_reducible refine gate_callee (f := 103) rfl ?_); refine goesL_ (some 9) rfl rfl Try.func103 (by kernel_rfl) rfl #[.slice A0_0 l0_0.length c0_0, .slice A1_0 l1_0.length c1_0] rfl (by (try simp only [List.map_toArray, List.map_cons, List.map_nil]); first | done | rfl | (simp only [List.length_drop, List.length_take]; rfl)) ?_; (with_reducible refine (laws_eqStringS.calls k _ _ l0_0 _ _ l1_0 true _ ?side1 ?side2 ?side3 ?side4 A3.out).mono ?_); (case side1 => repeat (first | exact (Kd.C_below HR0_0.out HB.out) | (with_reducible refine Kd.C_alloc ?_ _) | (with_reducible refine Kd.C_drewN ?_ _) | (with_reducible refine Kd.C_drew ?_))); (case side2 => exact HC0_0.out); (case side3 => repeat (first | exact (Kd.C_below HR1_0.out HB.out) | (with_reducible refine Kd.C_alloc ?_ _) | (with_reducible refine Kd.C_drewN ?_ _) | (with_reducible refine Kd.C_drew ?_))); (case side4 => exact HC1_0.out); rintro e w' ⟨rfl, ⟨nd, rfl⟩⟩; refine ⟨_, rfl, ?_⟩) | ((with_reducible refine gate_callee (f := 104) rfl ?_); refine goesL_ (some 15) rfl rfl Try.func104 (by kernel_rfl) rfl #[.slice A0_1 l0_1.length c0_1, .slice A1_1 l1_1.length c1_1] rfl (by (try simp only [List.map_toArray, List.map_cons, List.map_nil]); first | done | rfl | (simp only [List.length_drop, List.length_take]; rfl)) ?_; (with_reducible refine (laws_eqPutS.calls k _ _ l0_1 _ _ l1_1 true _ ?side1 ?side2 ?side3 ?side4 A5.out).mono ?_); (case side1 => repeat (first | exact (Kd.C_below HR0_1.out (by repeat (first | (with_reducible first | exact HB.out | apply below_alloc | apply pw_below_drewN | apply below_drew1 | refine below_set ?_ GE256.out | refine below_set ?_ GE257.out) | exact HB.out))) | (with_reducible refine Kd.C_alloc ?_ _) | (with_reducible refine Kd.C_drewN ?_ _) | (with_reducible refine Kd.C_drew ?_))); (case side2 => exact HC0_1.out); (case side3 => repeat (first | exact (Kd.C_below HR1_1.out (by repeat (first | (with_reducible first | exact HB.out | apply below_alloc | apply pw_below_drewN | apply below_drew1 | refine below_set ?_ GE256.out | refine below_set ?_ GE257.out) | exact HB.out))) | (with_reducible refine Kd.C_alloc ?_ _) | (with_reducible refine Kd.C_drewN ?_ _) | (with_reducible refine Kd.C_drew ?_))); (case side4 => exact HC1_1.out); rintro e w12 ⟨rfl, hb⟩; refine ⟨_, rfl, ?_⟩; have n0_ := Aside0.mk (blk_below (g := gb256) (o := .cells #[.slice A0_0 l0_0.length c0_0, .slice A0_1 l0_1.length c0_1] 41 (0, 0)) (by (with_reducible repeat (first | refine blk_drewN ?_ _ | refine blk_drew ?_ | refine blk_alloc ?_ _)); exact BK256.out) hb); have n1_ := Aside0.mk (blk_below (g := gb257) (o := .cells #[.slice A1_0 l1_0.length c1_0, .slice A1_1 l1_1.length c1_1] 41 (0, 0)) (by (with_reducible repeat (first | refine blk_drewN ?_ _ | refine blk_drew ?_ | refine blk_alloc ?_ _)); exact BK257.out) hb); have n2_ := Aside0.mk (below_step (by repeat (first | (with_reducible first | exact HB.out | apply below_alloc | apply pw_below_drewN | apply below_drew1 | refine below_set ?_ GE256.out | refine below_set ?_ GE257.out) | exact HB.out)) hb); clear BK256; clear BK257; clear HB; have BK256 := n0_; have BK257 := n1_; have HB := n2_; clear n0_ n1_ n2_; (try clear hb); (try clear hb2); (try clear hk); (try clear hi)))
   go_ret
   exact ⟨by first | rfl | (simp [errW_none, errW_some] <;> rfl) | (simp [*, errW_none, errW_some] <;> rfl), by repeat (first | (with_reducible first | exact HB.out | apply below_alloc | apply pw_below_drewN | apply below_drew1 | refine below_set ?_ GE256.out | refine below_set ?_ GE257.out) | exact HB.out)⟩
  ·replace c6 := Bool.eq_false_iff.mpr c6
   subst c6
   have H1 : (none) = some r := by rw [if_neg (show ¬ (false = true) by decide)] at H; exact H
   clear H
   have H := H1
   clear H1
   exact absurd H (by simp)
 ·replace c4 := Bool.eq_false_iff.mpr c4
  subst c4
  have H1 : (none) = some r := by rw [if_neg (show ¬ (false = true) by decide)] at H; exact H
  clear H
  have H := H1
  clear H1
  exact absurd H (by simp)
noncomputable def laws_FnExactTreeOk.f (k : Nat) (l0_0 : List ByteArray) (l0_1 : List (S187)) (a1 : Int) : Option (Bool) := (laws_szDisk.f k l0_0 l0_1 1048576).bind fun t261 => (if t261 < 0 then (some true) else ((laws_toDisk.f k l0_0 l0_1).bind fun bt262 => ((spec_TreeOk.f bt262.1 bt262.2 a1).bind fun t268 => ((laws_toDisk.f k l0_0 l0_1).bind fun bt269 => ((impl_TreeOk.f bt269.1 bt269.2 a1).bind fun t276 => (if (t276 != t268) = true then (none) else ((laws_toDisk.f k l0_0 l0_1).bind fun bt277 => ((laws_eqDisk.f k bt269.1 bt269.2 bt277.1 bt277.2).bind fun t283 => (if t283 = true then (some true) else (none))))))))))
theorem laws_FnExactTreeOk.mono : ∀ a0 a1 a2 k, LeO (laws_FnExactTreeOk.f k a0 a1 a2) (laws_FnExactTreeOk.f (k + 1) a0 a1 a2) := by
 intro a0 a1 a2 k
 unfold laws_FnExactTreeOk.f
 repeat' first
   | (with_reducible exact laws_eqDisk.mono _ _ _ _ _)
   | (with_reducible exact laws_szDisk.mono _ _ _ _)
   | (with_reducible exact laws_toDisk.mono _ _ _)
   | (with_reducible exact LeO.refl _)
   | (with_reducible exact LeO.none _)
   | (with_reducible refine LeO.ite ?_ ?_)
   | (with_reducible refine LeO.bind ?_ (fun _ => ?_))
   | exact laws_eqDisk.mono _ _ _ _ _
   | exact laws_szDisk.mono _ _ _ _
   | exact laws_toDisk.mono _ _ _
theorem rd_T189_nat (xs : List S189) (k : Nat) (hk : k < xs.length) : rd_T189 xs (k : Int) = xs[k] := by
 simp [rd_T189, List.getD_eq_getElem?_getD, List.getElem?_eq_getElem hk]
theorem rd_T187_nat (xs : List S187) (k : Nat) (hk : k < xs.length) : rd_T187 xs (k : Int) = xs[k] := by
 simp [rd_T187, List.getD_eq_getElem?_getD, List.getElem?_eq_getElem hk]
theorem wrap_in {x : Int} (h1 : -9223372036854775808 ≤ x) (h2 : x ≤ 9223372036854775807) : wrap64 x = x := by unfold wrap64; omega
theorem szS_go (l : List ByteArray) (hs : ∀ s ∈ l, s.size ≤ 9223372036854775807) (hl : l.length ≤ 9223372036854775807) : ∀ (n i : Nat) (x : Int), i + n = l.length → 0 ≤ x → x ≤ 1048576 → ∃ r, laws_szStringS.l0 (n + 1) l x (i : Int) = some r ∧ (r < 0 ∨ (0 ≤ r ∧ r ≤ x ∧ ∀ j (hj : j < l.length), i ≤ j → (l[j].size : Int) ≤ x)) := by
 intro n
 induction n with
 | zero =>
  intro i x hi h0 h1
  refine ⟨x, ?_, .inr ⟨h0, Int.le_refl _, fun j hj h => by omega⟩⟩
  rw [laws_szStringS.l0, if_neg (by omega)]
 | succ n ih =>
  intro i x hi h0 h1
  have hlt : i < l.length := by omega
  have hsz := hs l[i] (List.getElem_mem hlt)
  rw [laws_szStringS.l0, if_pos (by omega), if_pos (by omega), rdOf_nat _ _ _ hlt, wrap_in (by omega) (by omega), wrap_in (by omega) (by omega)]
  by_cases hneg : x - (l[i].size : Int) < 0
  ·rw [if_pos hneg]
   exact ⟨-1, rfl, .inl (by omega)⟩
  ·rw [if_neg hneg]
   obtain ⟨r, h2, h3⟩ := ih (i + 1) (x - (l[i].size : Int)) (by omega) (by omega) (by omega)
   refine ⟨r, by rw [show (i : Int) + 1 = ((i + 1 : Nat) : Int) by omega]; exact h2, ?_⟩
   rcases h3 with h3 | ⟨h4, h5, h6⟩
   ·exact .inl h3
   ·refine .inr ⟨h4, by omega, fun j hj h => ?_⟩
    by_cases e : j = i
    ·subst e; omega
    ·have := h6 j hj (by omega); omega
theorem szS_ev (l : List ByteArray) (hs : ∀ s ∈ l, s.size ≤ 9223372036854775807) (hl : l.length ≤ 9223372036854775807) (x : Int) (h0 : 0 ≤ x) (h1 : x ≤ 1048576) : ∃ r, Ev (fun k => laws_szStringS.f k l x) r ∧ (r < 0 ∨ (0 ≤ r ∧ r ≤ x ∧ (l.length : Int) ≤ x ∧ ∀ s ∈ l, (s.size : Int) ≤ x)) := by
 by_cases hneg : x - (l.length : Int) < 0
 ·refine ⟨-1, Ev.of (k := 0) (fun k => laws_szStringS.mono _ _ k) ?_, .inl (by omega)⟩
  unfold laws_szStringS.f
  rw [wrap_in (by omega) (by omega), if_pos hneg]
 ·obtain ⟨r, h2, h3⟩ := szS_go l hs hl l.length 0 (x - (l.length : Int)) (by omega) (by omega) (by omega)
  refine ⟨r, Ev.of (k := l.length + 1) (fun k => laws_szStringS.mono _ _ k) ?_, ?_⟩
  ·unfold laws_szStringS.f
   rw [wrap_in (by omega) (by omega), if_neg hneg]
   exact h2
  ·rcases h3 with h3 | ⟨h4, h5, h6⟩
   ·exact .inl h3
   ·refine .inr ⟨h4, by omega, by omega, fun s hs => ?_⟩
    obtain ⟨j, hj, rfl⟩ := List.getElem_of_mem hs
    have := h6 j hj (Nat.zero_le _)
    omega
theorem szP_go (l : List S187) (hs : ∀ s ∈ l, s.f1.size ≤ 9223372036854775807) (hl : l.length ≤ 9223372036854775807) : ∀ (n i : Nat) (x : Int), i + n = l.length → 0 ≤ x → x ≤ 1048576 → ∃ r, laws_szPutS.l0 (n + 1) l x (i : Int) = some r ∧ (r < 0 ∨ (0 ≤ r ∧ r ≤ x ∧ ∀ j (hj : j < l.length), i ≤ j → (l[j].f1.size : Int) ≤ x)) := by
 intro n
 induction n with
 | zero =>
  intro i x hi h0 h1
  refine ⟨x, ?_, .inr ⟨h0, Int.le_refl _, fun j hj h => by omega⟩⟩
  rw [laws_szPutS.l0, if_neg (by omega)]
 | succ n ih =>
  intro i x hi h0 h1
  have hlt : i < l.length := by omega
  have hsz := hs l[i] (List.getElem_mem hlt)
  rw [laws_szPutS.l0, if_pos (by omega), if_pos (by omega), rd_T187_nat _ _ hlt, laws_szPut.f, wrap_in (x := x - _) (by omega) (by omega), wrap_in (x := (i : Int) + 1) (by omega) (by omega)]
  by_cases hneg : x - (l[i].f1.size : Int) < 0
  ·rw [if_pos hneg, Option.bind_some, if_pos (by omega)]
   exact ⟨-1, rfl, .inl (by omega)⟩
  ·rw [if_neg hneg, Option.bind_some, if_neg hneg]
   obtain ⟨r, h2, h3⟩ := ih (i + 1) (x - (l[i].f1.size : Int)) (by omega) (by omega) (by omega)
   refine ⟨r, by rw [show (i : Int) + 1 = ((i + 1 : Nat) : Int) by omega]; exact h2, ?_⟩
   rcases h3 with h3 | ⟨h4, h5, h6⟩
   ·exact .inl h3
   ·refine .inr ⟨h4, by omega, fun j hj h => ?_⟩
    by_cases e : j = i
    ·subst e; omega
    ·have := h6 j hj (by omega); omega
theorem szP_ev (l : List S187) (hs : ∀ s ∈ l, s.f1.size ≤ 9223372036854775807) (hl : l.length ≤ 9223372036854775807) (x : Int) (h0 : 0 ≤ x) (h1 : x ≤ 1048576) : ∃ r, Ev (fun k => laws_szPutS.f k l x) r ∧ (r < 0 ∨ (0 ≤ r ∧ r ≤ x ∧ (l.length : Int) ≤ x ∧ ∀ s ∈ l, (s.f1.size : Int) ≤ x)) := by
 by_cases hneg : x - (l.length : Int) < 0
 ·refine ⟨-1, Ev.of (k := 0) (fun k => laws_szPutS.mono _ _ k) ?_, .inl (by omega)⟩
  unfold laws_szPutS.f
  rw [wrap_in (by omega) (by omega), if_pos hneg]
 ·obtain ⟨r, h2, h3⟩ := szP_go l hs hl l.length 0 (x - (l.length : Int)) (by omega) (by omega) (by omega)
  refine ⟨r, Ev.of (k := l.length + 1) (fun k => laws_szPutS.mono _ _ k) ?_, ?_⟩
  ·unfold laws_szPutS.f
   rw [wrap_in (by omega) (by omega), if_neg hneg]
   exact h2
  ·rcases h3 with h3 | ⟨h4, h5, h6⟩
   ·exact .inl h3
   ·refine .inr ⟨h4, by omega, by omega, fun s hs => ?_⟩
    obtain ⟨j, hj, rfl⟩ := List.getElem_of_mem hs
    have := h6 j hj (Nat.zero_le _)
    omega
def Small (pages : List ByteArray) (late : List S187) : Prop := (pages.length ≤ 1048576 ∧ ∀ s ∈ pages, s.size ≤ 1048576) ∧ (late.length ≤ 1048576 ∧ ∀ s ∈ late, s.f1.size ≤ 1048576)
theorem szD_ev (pages : List ByteArray) (late : List S187) (h1 : ∀ s ∈ pages, s.size ≤ 9223372036854775807) (h2 : pages.length ≤ 9223372036854775807) (h3 : ∀ s ∈ late, s.f1.size ≤ 9223372036854775807) (h4 : late.length ≤ 9223372036854775807) : ∃ r, Ev (fun k => laws_szDisk.f k pages late 1048576) r ∧ (r < 0 ∨ (¬ r < 0 ∧ Small pages late)) := by
 obtain ⟨a, ea, ha⟩ := szS_ev pages h1 h2 1048576 (by omega) (by omega)
 rcases ha with ha | ⟨a0, a1, a2, a3⟩
 ·refine ⟨-1, Ev.bind ea ?_, .inl (by omega)⟩
  simp only [if_pos ha]
  exact Ev.now _
 ·obtain ⟨b, eb, hb⟩ := szP_ev late h3 h4 a a0 a1
  rcases hb with hb | ⟨b0, b1, b2, b3⟩
  ·refine ⟨-1, Ev.bind ea ?_, .inl (by omega)⟩
   simp only [if_neg (show ¬ a < 0 by omega)]
   refine Ev.bind eb ?_
   simp only [if_pos hb]
   exact Ev.now _
  ·refine ⟨b, Ev.bind ea ?_, .inr ⟨by omega, ⟨by omega, fun s hs => by have := a3 s hs; omega⟩, ⟨by omega, fun s hs => by have := b3 s hs; omega⟩⟩⟩
   simp only [if_neg (show ¬ a < 0 by omega)]
   refine Ev.bind eb ?_
   simp only [if_neg (show ¬ b < 0 by omega)]
   exact Ev.now _
theorem set_front {α : Type} (l r : List α) (x y : α) : (l ++ x :: r).set l.length y = (l ++ [y]) ++ r := by
 rw [List.set_append_right _ _ (Nat.le_refl _), Nat.sub_self, List.set_cons_zero, List.append_assoc, List.singleton_append]
theorem toS_go (l : List ByteArray) (hl : l.length ≤ 1048576) : ∀ (n i : Nat), i + n = l.length → laws_toStringS.l0 (n + 1) l (l.take i ++ List.replicate n (⟨#[]⟩ : ByteArray)) (i : Int) = some l := by
 intro n
 induction n with
 | zero =>
  intro i hi
  rw [laws_toStringS.l0, if_neg (by omega), List.replicate_zero, List.append_nil, List.take_of_length_le (by omega)]
 | succ n ih =>
  intro i hi
  have hlt : i < l.length := by omega
  have hti : (l.take i).length = i := by rw [List.length_take]; omega
  rw [laws_toStringS.l0, if_pos (by omega), if_pos (by omega), if_pos (by simp; omega), rdOf_nat _ _ _ hlt, wrap_in (by omega) (by omega), Int.toNat_natCast, List.replicate_succ]
  have := set_front (l.take i) (List.replicate n (⟨#[]⟩ : ByteArray)) ⟨#[]⟩ l[i]
  rw [hti] at this
  rw [this, List.take_append_getElem hlt, show (i : Int) + 1 = ((i + 1 : Nat) : Int) by omega]
  exact ih (i + 1) (by omega)
theorem toS_ev (l : List ByteArray) (hl : l.length ≤ 1048576) : Ev (fun k => laws_toStringS.f k l) l := by
 refine Ev.of (k := l.length + 1) (fun k => laws_toStringS.mono _ k) ?_
 unfold laws_toStringS.f
 rw [if_pos (by omega), if_pos (by rw [Int.toNat_natCast]; omega), Int.toNat_natCast]
 have := toS_go l hl l.length 0 (by omega)
 simpa using this
def conv (x : S187) : S189 := ⟨x.f0, x.f1⟩
theorem toP_go (l : List S187) (hl : l.length ≤ 1048576) : ∀ (n i : Nat), i + n = l.length → laws_toPutS.l0 (n + 1) l ((l.map conv).take i ++ List.replicate n z189) (i : Int) = some (l.map conv) := by
 intro n
 induction n with
 | zero =>
  intro i hi
  rw [laws_toPutS.l0, if_neg (by omega), List.replicate_zero, List.append_nil, List.take_of_length_le (by rw [List.length_map]; omega)]
 | succ n ih =>
  intro i hi
  have hlt : i < l.length := by omega
  have hlt' : i < (l.map conv).length := by rw [List.length_map]; exact hlt
  have hti : ((l.map conv).take i).length = i := by rw [List.length_take, List.length_map]; omega
  rw [laws_toPutS.l0, if_pos (by omega), if_pos (by omega), rd_T187_nat _ _ hlt, laws_toPut.f, Option.bind_some, if_pos (by simp; omega), wrap_in (by omega) (by omega), Int.toNat_natCast, List.replicate_succ]
  have := set_front ((l.map conv).take i) (List.replicate n z189) z189 (conv l[i])
  rw [hti] at this
  show laws_toPutS.l0 (n + 1) l (((l.map conv).take i ++ z189 :: List.replicate n z189).set i (conv l[i])) _ = _
  rw [this, show conv l[i] = (l.map conv)[i] by rw [List.getElem_map], List.take_append_getElem hlt', show (i : Int) + 1 = ((i + 1 : Nat) : Int) by omega]
  exact ih (i + 1) (by omega)
theorem toP_ev (l : List S187) (hl : l.length ≤ 1048576) : Ev (fun k => laws_toPutS.f k l) (l.map conv) := by
 refine Ev.of (k := l.length + 1) (fun k => laws_toPutS.mono _ k) ?_
 unfold laws_toPutS.f
 rw [if_pos (by omega), if_pos (by rw [Int.toNat_natCast]; omega), Int.toNat_natCast]
 have := toP_go l hl l.length 0 (by omega)
 simpa using this
theorem toD_ev (pages : List ByteArray) (late : List S187) (h : Small pages late) : Ev (fun k => laws_toDisk.f k pages late) (pages, late.map conv) :=
 Ev.bind (toS_ev pages h.1.1) (Ev.bind (toP_ev late h.2.1) (Ev.now _))
theorem eqS_go (l : List ByteArray) (hl : l.length ≤ 1048576) : ∀ (n i : Nat), i + n = l.length → laws_eqStringS.l0 (n + 1) l l (i : Int) = some true := by
 intro n
 induction n with
 | zero => intro i hi; rw [laws_eqStringS.l0, if_neg (by omega)]
 | succ n ih =>
  intro i hi
  rw [laws_eqStringS.l0, if_pos (by omega), if_pos (by omega), if_pos (by omega), if_pos rfl, wrap_in (by omega) (by omega), show (i : Int) + 1 = ((i + 1 : Nat) : Int) by omega]
  exact ih (i + 1) (by omega)
theorem eqP_go (l : List S189) (hl : l.length ≤ 1048576) : ∀ (n i : Nat), i + n = l.length → laws_eqPutS.l0 (n + 1) l l (i : Int) = some true := by
 intro n
 induction n with
 | zero => intro i hi; rw [laws_eqPutS.l0, if_neg (by omega)]
 | succ n ih =>
  intro i hi
  rw [laws_eqPutS.l0, if_pos (by omega), if_pos (by omega), if_pos (by omega), laws_eqPut.f, if_pos rfl, if_pos rfl, Option.bind_some, if_pos rfl, wrap_in (by omega) (by omega), show (i : Int) + 1 = ((i + 1 : Nat) : Int) by omega]
  exact ih (i + 1) (by omega)
theorem eqD_ev (pages : List ByteArray) (late : List S189) (h1 : pages.length ≤ 1048576) (h2 : late.length ≤ 1048576) : Ev (fun k => laws_eqDisk.f k pages late pages late) true := by
 refine Ev.bind (a := true) (Ev.of (k := pages.length + 1) (fun k => laws_eqStringS.mono _ _ k) ?_) ?_
 ·unfold laws_eqStringS.f
  rw [if_pos rfl]
  exact eqS_go pages h1 pages.length 0 (by omega)
 ·simp only [if_true]
  refine Ev.bind (a := true) (Ev.of (k := late.length + 1) (fun k => laws_eqPutS.mono _ _ k) ?_) ?_
  ·unfold laws_eqPutS.f
   rw [if_pos rfl]
   exact eqP_go late h2 late.length 0 (by omega)
  ·simp only [if_true]
   exact Ev.now _
theorem page_go (pages : List ByteArray) (late : List S189) (h1 : ∀ s ∈ pages, s.size ≤ 1048576) (h2 : ∀ s ∈ late, s.f1.size ≤ 1048576) (page : Int) (hp0 : 0 ≤ page) (hp1 : page < (pages.length : Int)) (hl : late.length ≤ 1048576) :
  ∀ n : Nat, n ≤ late.length → ∃ s : ByteArray, impl_ReadPage.l0 (n + 1) page ((n : Int) - 1) pages late = some s ∧ spec_ReadPage.l0 (n + 1) page ((n : Int) - 1) pages late = some s ∧ s.size ≤ 1048576 := by
 intro n
 induction n with
 | zero =>
  intro _
  refine ⟨rdOf ByteArray.empty pages page, ?_, ?_, ?_⟩
  ·rw [impl_ReadPage.l0, if_neg (by omega), if_pos hp0, if_pos hp1]
  ·rw [spec_ReadPage.l0, if_neg (by omega), if_pos hp0, if_pos hp1]
  ·obtain ⟨p, rfl⟩ : ∃ p : Nat, page = (p : Int) := ⟨page.toNat, by omega⟩
   rw [rdOf_nat _ _ _ (by omega)]
   exact h1 _ (List.getElem_mem _)
 | succ n ih =>
  intro hn
  have e : (((n + 1 : Nat) : Int) - 1) = (n : Int) := by omega
  have hlt : n < late.length := by omega
  have ei : impl_ReadPage.l0 (n + 1 + 1) page (n : Int) pages late = if late[n].f0 = page then some late[n].f1 else impl_ReadPage.l0 (n + 1) page ((n : Int) - 1) pages late := by
   rw [impl_ReadPage.l0, if_pos (by omega), if_pos (by omega), if_pos (by omega), rd_T189_nat _ _ hlt, wrap_in (by omega) (by omega)]
  have es : spec_ReadPage.l0 (n + 1 + 1) page (n : Int) pages late = if late[n].f0 = page then some late[n].f1 else spec_ReadPage.l0 (n + 1) page ((n : Int) - 1) pages late := by
   rw [spec_ReadPage.l0, if_pos (by omega), if_pos (by omega), if_pos (by omega), rd_T189_nat _ _ hlt, wrap_in (by omega) (by omega)]
  rw [e, ei, es]
  by_cases hx : late[n].f0 = page
  ·rw [if_pos hx, if_pos hx]
   exact ⟨_, rfl, rfl, h2 _ (List.getElem_mem _)⟩
  ·rw [if_neg hx, if_neg hx]
   exact ih (by omega)
theorem page_both (pages : List ByteArray) (late : List S189) (h0 : pages.length ≤ 1048576) (h1 : ∀ s ∈ pages, s.size ≤ 1048576) (h2 : ∀ s ∈ late, s.f1.size ≤ 1048576) (hl : late.length ≤ 1048576) (page : Int) : ∃ s : ByteArray, (∃ k, impl_ReadPage.f k pages late page = some s) ∧ (∃ k, spec_ReadPage.f k pages late page = some s) ∧ s.size ≤ 1048576 := by
 have hw : wrap64 ((pages.length : Int) - 1) = (pages.length : Int) - 1 := wrap_in (by omega) (by omega)
 have hv : wrap64 ((late.length : Int) - 1) = (late.length : Int) - 1 := wrap_in (by omega) (by omega)
 by_cases hin : 0 ≤ page ∧ page ≤ (pages.length : Int) - 1
 ·obtain ⟨s, e1, e2, e3⟩ := page_go pages late h1 h2 page hin.1 (by omega) hl late.length (Nat.le_refl _)
  refine ⟨s, ⟨late.length + 1, ?_⟩, ⟨late.length + 1, ?_⟩, e3⟩
  ·unfold impl_ReadPage.f impl_isPage.f impl_in.f
   rw [hw, hv, if_pos hin.1, decide_eq_true hin.2, Option.bind_some, Option.bind_some, if_pos rfl]
   exact e1
  ·unfold spec_ReadPage.f spec_l01In.f
   rw [hw, hv, if_pos hin.1, decide_eq_true hin.2, Option.bind_some, if_pos rfl]
   exact e2
 ·have hno : ∀ b : Option Bool, b = (if page ≥ 0 then (some (decide (page ≤ (pages.length : Int) - 1))) else (some false)) → b = some false := by
   rintro b rfl
   split
   ·rw [decide_eq_false (by omega)]
   ·rfl
  refine ⟨⟨#[]⟩, ⟨0, ?_⟩, ⟨0, ?_⟩, by decide⟩
  ·unfold impl_ReadPage.f impl_isPage.f
   rw [hw, hno (impl_in.f page 0 ((pages.length : Int) - 1)) rfl]
   rfl
  ·unfold spec_ReadPage.f
   rw [hw, hno (spec_l01In.f page 0 ((pages.length : Int) - 1)) rfl]
   rfl
theorem rnB_ex (pages : List ByteArray) (late : List S189) (h0 : pages.length ≤ 1048576) (h1 : ∀ s ∈ pages, s.size ≤ 1048576) (h2 : ∀ s ∈ late, s.f1.size ≤ 1048576) (hl : late.length ≤ 1048576) : ∃ rn, RnB pages late rn := by
 have h : ∀ page : Int, ∃ x : S68 × Bool, ∃ s, (∃ k, impl_ReadPage.f k pages late page = some s) ∧ (∃ k, spec_ReadPage.f k pages late page = some s) ∧ (∀ w, Calls Try.prog 30 #[.string s] w (NodePost w x.1 x.2)) ∧ (∀ w, Calls Try.prog 35 #[.string s] w (NodePost w x.1 x.2)) ∧ ((x.2 = true ∧ nodeOkB x.1.f0 x.1.f1 x.1.f2 x.1.f3 = true) ∨ (x.2 = false ∧ x.1 = z68)) := by
  intro page
  obtain ⟨s, e1, e2, e3⟩ := page_both pages late h0 h1 h2 hl page
  obtain ⟨n, ok, c1, c2, c3⟩ := node_both s (by omega)
  exact ⟨(n, ok), s, e1, e2, c1, c2, c3⟩
 refine ⟨fun page => Classical.choose (h page), fun page => ?_, fun page => ?_⟩
 ·obtain ⟨s, e1, e2, c1, c2, c3⟩ := Classical.choose_spec (h page)
  exact ⟨s, e1, c1, c3⟩
 ·obtain ⟨s, e1, e2, c1, c2, c3⟩ := Classical.choose_spec (h page)
  exact ⟨s, e2, c2, c3⟩
theorem rnB_good {pages : List ByteArray} {late : List S189} {rn : Int → S68 × Bool} (h : RnB pages late rn) : RnG rn := by
 intro page hok
 obtain ⟨s, _, _, hc⟩ := h.1 page
 rcases hc with hc | hc
 ·obtain ⟨hshape, hcond⟩ := (nodeOk_iff _ _ _ _).1 hc.2
  refine ⟨fun i hi => ?_, fun hl => (hshape.2.2 hl).1⟩
  have := (hcond (i + 1) hi).2.1 (by omega)
  simpa using this
 ·rw [hc.1] at hok; cases hok
def prOf (st : TSt) : List S140 × Bool := if st.bad = true then ([], false) else (st.pr, true)
noncomputable def impl_AllPairs.f (l0_0 : List ByteArray) (l0_1 : List S189) (a1 : Int) : Option (List S140 × Bool) := (rnOf l0_0 l0_1).map fun rn => prOf (tof rn a1)
noncomputable def spec_AllPairs.f (l0_0 : List ByteArray) (l0_1 : List S189) (a1 : Int) : Option (List S140 × Bool) := (rnOf l0_0 l0_1).map fun rn => prOf (look rn a1)
def laws_eqPair.f (a0_0 : ByteArray) (a0_1 : ByteArray) (a1_0 : ByteArray) (a1_1 : ByteArray) : Option (Bool) := if a0_0.toList = a1_0.toList then (if a0_1.toList = a1_1.toList then (some true) else (none)) else (none)
def laws_eqPairS.l0 : Nat → List (S140) → List (S140) → Int → Option (Bool)
 | 0, _, _, _ => none
 | k + 1, x0, x1, x5 => if x5 < (x0.length : Int) then (if 0 ≤ x5 then (if x5 < (x1.length : Int) then ((laws_eqPair.f ((rd_T140 x0 x5).f0) ((rd_T140 x0 x5).f1) ((rd_T140 x1 x5).f0) ((rd_T140 x1 x5).f1)).bind fun t254 => (if t254 = true then (laws_eqPairS.l0 k x0 x1 (wrap64 (x5 + 1))) else (none))) else (none)) else (none)) else (some true)
def laws_eqPairS.f (k : Nat) (l0 : List (S140)) (l1 : List (S140)) : Option (Bool) := if (l0.length : Int) = (l1.length : Int) then (laws_eqPairS.l0 k l0 l1 0) else (none)
theorem laws_eqPairS.mono_l : ∀ k, (∀ y0 y1 y2, LeO (laws_eqPairS.l0 k y0 y1 y2) (laws_eqPairS.l0 (k + 1) y0 y1 y2))
 | 0 => fun _ _ _ r h => by simp [laws_eqPairS.l0] at h
 | k + 1 => by
  have ih0 := laws_eqPairS.mono_l k
  ·intro y0 y1 y2
   unfold laws_eqPairS.l0
   repeat' first
   | (with_reducible exact ih0 _ _ _)
   | (with_reducible exact LeO.refl _)
   | (with_reducible exact LeO.none _)
   | (with_reducible refine LeO.ite ?_ ?_)
   | (with_reducible refine LeO.bind ?_ (fun _ => ?_))
   | exact ih0 _ _ _
theorem laws_eqPairS.mono : ∀ a0 a1 k, LeO (laws_eqPairS.f k a0 a1) (laws_eqPairS.f (k + 1) a0 a1) := by
 intro a0 a1 k
 have ih0 := laws_eqPairS.mono_l k
 unfold laws_eqPairS.f
 repeat' first
   | (with_reducible exact ih0 _ _ _)
   | (with_reducible exact LeO.refl _)
   | (with_reducible exact LeO.none _)
   | (with_reducible refine LeO.ite ?_ ?_)
   | (with_reducible refine LeO.bind ?_ (fun _ => ?_))
   | exact ih0 _ _ _
def laws_eqPairS.T6 : Bool × List (List Nat × List Nat) := (true, [([], []), ([], []), ([0, 1], [0, 1]), ([2], [2]), ([], []), ([], []), ([4, 5], [4, 5]), ([6], [6]), ([3, 7], [3, 7]), ([8], [8])])
def laws_markText.l0 : Nat → Int → ByteArray → Option (ByteArray)
 | 0, _, _ => none
 | k + 1, x0, x3 => if x0 > 0 then ((some (([(wrap64 (48 + (Int.tmod x0 10))) % 256] : List Int) : List Int)).bind fun y255 => (if (strOfNums y255).size + x3.size ≤ 9223372036854775807 then (laws_markText.l0 k (wrap64 (Int.tdiv x0 10)) ((strOfNums y255) ++ x3)) else (none))) else (if 1 + x3.size ≤ 9223372036854775807 then (some ((⟨#[109]⟩ : ByteArray) ++ x3)) else (none))
def laws_markText.f (k : Nat) (a0 : Int) : Option (ByteArray) := if a0 ≤ 0 then (some (⟨#[109, 48]⟩ : ByteArray)) else (laws_markText.l0 k a0 (⟨#[]⟩ : ByteArray))
theorem laws_markText.mono_l : ∀ k, (∀ y0 y1, LeO (laws_markText.l0 k y0 y1) (laws_markText.l0 (k + 1) y0 y1))
 | 0 => fun _ _ r h => by simp [laws_markText.l0] at h
 | k + 1 => by
  have ih0 := laws_markText.mono_l k
  ·intro y0 y1
   unfold laws_markText.l0
   repeat' first
   | (with_reducible exact ih0 _ _)
   | (with_reducible exact LeO.refl _)
   | (with_reducible exact LeO.none _)
   | (with_reducible refine LeO.ite ?_ ?_)
   | (with_reducible refine LeO.bind ?_ (fun _ => ?_))
   | exact ih0 _ _
theorem laws_markText.mono : ∀ a0 k, LeO (laws_markText.f k a0) (laws_markText.f (k + 1) a0) := by
 intro a0 k
 have ih0 := laws_markText.mono_l k
 unfold laws_markText.f
 repeat' first
   | (with_reducible exact ih0 _ _)
   | (with_reducible exact LeO.refl _)
   | (with_reducible exact LeO.none _)
   | (with_reducible refine LeO.ite ?_ ?_)
   | (with_reducible refine LeO.bind ?_ (fun _ => ?_))
   | exact ih0 _ _
def laws_markStringS.l0 : Nat → List ByteArray → Int → Int → Option (Int × List ByteArray)
 | 0, _, _, _ => none
 | k + 1, x0, x1, x5 => if x5 < (x0.length : Int) then ((laws_markText.f k x1).bind fun t258 => (if 0 ≤ x5 then (laws_markStringS.l0 k (x0.set (x5 : Int).toNat t258) (wrap64 (x1 + 1)) (wrap64 (x5 + 1))) else (none))) else (some (x1, x0))
def laws_markStringS.f (k : Nat) (l0 : List ByteArray) (a1 : Int) : Option (Int × List ByteArray) := laws_markStringS.l0 k l0 a1 0
theorem laws_markStringS.mono_l : ∀ k, (∀ y0 y1 y2, LeO (laws_markStringS.l0 k y0 y1 y2) (laws_markStringS.l0 (k + 1) y0 y1 y2))
 | 0 => fun _ _ _ r h => by simp [laws_markStringS.l0] at h
 | k + 1 => by
  have ih0 := laws_markStringS.mono_l k
  ·intro y0 y1 y2
   unfold laws_markStringS.l0
   repeat' first
   | (with_reducible exact ih0 _ _ _)
   | (with_reducible exact laws_markText.mono _ _)
   | (with_reducible exact LeO.refl _)
   | (with_reducible exact LeO.none _)
   | (with_reducible refine LeO.ite ?_ ?_)
   | (with_reducible refine LeO.bind ?_ (fun _ => ?_))
   | exact ih0 _ _ _
   | exact laws_markText.mono _ _
theorem laws_markStringS.mono : ∀ a0 a1 k, LeO (laws_markStringS.f k a0 a1) (laws_markStringS.f (k + 1) a0 a1) := by
 intro a0 a1 k
 have ih0 := laws_markStringS.mono_l k
 unfold laws_markStringS.f
 repeat' first
   | (with_reducible exact ih0 _ _ _)
   | (with_reducible exact laws_markText.mono _ _)
   | (with_reducible exact LeO.refl _)
   | (with_reducible exact LeO.none _)
   | (with_reducible refine LeO.ite ?_ ?_)
   | (with_reducible refine LeO.bind ?_ (fun _ => ?_))
   | exact ih0 _ _ _
   | exact laws_markText.mono _ _
def laws_markPutS.l0 : Nat → List (S189) → Int → Int → Option (Int × (List (S189)))
 | 0, _, _, _ => none
 | k + 1, x0, x1, x5 => if x5 < (x0.length : Int) then (if 0 ≤ x5 then ((some (x0.set (x5 : Int).toNat (⟨x1, (rd_T189 x0 x5).f1⟩ : S189) : List (S189))).bind fun y260 => ((laws_markText.f k (wrap64 (x1 + 1))).bind fun t261 => (laws_markPutS.l0 k (y260.set (x5 : Int).toNat (⟨(rd_T189 y260 x5).f0, t261⟩ : S189)) (wrap64 ((wrap64 (x1 + 1)) + 1)) (wrap64 (x5 + 1))))) else (none)) else (some (x1, x0))
def laws_markPutS.f (k : Nat) (l0 : List (S189)) (a1 : Int) : Option (Int × (List (S189))) := laws_markPutS.l0 k l0 a1 0
theorem laws_markPutS.mono_l : ∀ k, (∀ y0 y1 y2, LeO (laws_markPutS.l0 k y0 y1 y2) (laws_markPutS.l0 (k + 1) y0 y1 y2))
 | 0 => fun _ _ _ r h => by simp [laws_markPutS.l0] at h
 | k + 1 => by
  have ih0 := laws_markPutS.mono_l k
  ·intro y0 y1 y2
   unfold laws_markPutS.l0
   repeat' first
   | (with_reducible exact ih0 _ _ _)
   | (with_reducible exact laws_markText.mono _ _)
   | (with_reducible exact LeO.refl _)
   | (with_reducible exact LeO.none _)
   | (with_reducible refine LeO.ite ?_ ?_)
   | (with_reducible refine LeO.bind ?_ (fun _ => ?_))
   | exact ih0 _ _ _
   | exact laws_markText.mono _ _
theorem laws_markPutS.mono : ∀ a0 a1 k, LeO (laws_markPutS.f k a0 a1) (laws_markPutS.f (k + 1) a0 a1) := by
 intro a0 a1 k
 have ih0 := laws_markPutS.mono_l k
 unfold laws_markPutS.f
 repeat' first
   | (with_reducible exact ih0 _ _ _)
   | (with_reducible exact laws_markText.mono _ _)
   | (with_reducible exact LeO.refl _)
   | (with_reducible exact LeO.none _)
   | (with_reducible refine LeO.ite ?_ ?_)
   | (with_reducible refine LeO.bind ?_ (fun _ => ?_))
   | exact ih0 _ _ _
   | exact laws_markText.mono _ _
def laws_markDisk.f (k : Nat) (l0_0 : List ByteArray) (l0_1 : List (S189)) (a1 : Int) : Option (Int × List ByteArray × (List (S189))) := (laws_markStringS.f k l0_0 a1).bind fun bt264 => ((laws_markPutS.f k l0_1 bt264.1).bind fun bt266 => (some (bt266.1, bt264.2, bt266.2)))
theorem laws_markDisk.mono : ∀ a0 a1 a2 k, LeO (laws_markDisk.f k a0 a1 a2) (laws_markDisk.f (k + 1) a0 a1 a2) := by
 intro a0 a1 a2 k
 unfold laws_markDisk.f
 repeat' first
   | (with_reducible exact laws_markPutS.mono _ _ _)
   | (with_reducible exact laws_markStringS.mono _ _ _)
   | (with_reducible exact LeO.refl _)
   | (with_reducible exact LeO.none _)
   | (with_reducible refine LeO.ite ?_ ?_)
   | (with_reducible refine LeO.bind ?_ (fun _ => ?_))
   | exact laws_markPutS.mono _ _ _
   | exact laws_markStringS.mono _ _ _
def laws_markPairS.l0 : Nat → List (S140) → Int → Int → Option (Int × (List (S140)))
 | 0, _, _, _ => none
 | k + 1, x0, x1, x5 => if x5 < (x0.length : Int) then ((laws_markText.f k x1).bind fun t268 => (if 0 ≤ x5 then ((some (x0.set (x5 : Int).toNat (⟨t268, (rd_T140 x0 x5).f1⟩ : S140) : List (S140))).bind fun y269 => ((laws_markText.f k (wrap64 (x1 + 1))).bind fun t270 => (laws_markPairS.l0 k (y269.set (x5 : Int).toNat (⟨(rd_T140 y269 x5).f0, t270⟩ : S140)) (wrap64 ((wrap64 (x1 + 1)) + 1)) (wrap64 (x5 + 1))))) else (none))) else (some (x1, x0))
def laws_markPairS.f (k : Nat) (l0 : List (S140)) (a1 : Int) : Option (Int × (List (S140))) := laws_markPairS.l0 k l0 a1 0
theorem laws_markPairS.mono_l : ∀ k, (∀ y0 y1 y2, LeO (laws_markPairS.l0 k y0 y1 y2) (laws_markPairS.l0 (k + 1) y0 y1 y2))
 | 0 => fun _ _ _ r h => by simp [laws_markPairS.l0] at h
 | k + 1 => by
  have ih0 := laws_markPairS.mono_l k
  ·intro y0 y1 y2
   unfold laws_markPairS.l0
   repeat' first
   | (with_reducible exact ih0 _ _ _)
   | (with_reducible exact laws_markText.mono _ _)
   | (with_reducible exact LeO.refl _)
   | (with_reducible exact LeO.none _)
   | (with_reducible refine LeO.ite ?_ ?_)
   | (with_reducible refine LeO.bind ?_ (fun _ => ?_))
   | exact ih0 _ _ _
   | exact laws_markText.mono _ _
theorem laws_markPairS.mono : ∀ a0 a1 k, LeO (laws_markPairS.f k a0 a1) (laws_markPairS.f (k + 1) a0 a1) := by
 intro a0 a1 k
 have ih0 := laws_markPairS.mono_l k
 unfold laws_markPairS.f
 repeat' first
   | (with_reducible exact ih0 _ _ _)
   | (with_reducible exact laws_markText.mono _ _)
   | (with_reducible exact LeO.refl _)
   | (with_reducible exact LeO.none _)
   | (with_reducible refine LeO.ite ?_ ?_)
   | (with_reducible refine LeO.bind ?_ (fun _ => ?_))
   | exact ih0 _ _ _
   | exact laws_markText.mono _ _
def laws_heldPairS.l0 : Nat → List (S140) → Int → Int → Option (Int)
 | 0, _, _, _ => none
 | k + 1, x0, x1, x5 => if x5 < (x0.length : Int) then (if 0 ≤ x5 then ((laws_markText.f k x1).bind fun t273 => (if ((rd_T140 x0 x5).f0).toList = t273.toList then ((laws_markText.f k (wrap64 (x1 + 1))).bind fun t275 => (if ((rd_T140 x0 x5).f1).toList = t275.toList then (laws_heldPairS.l0 k x0 (wrap64 ((wrap64 (x1 + 1)) + 1)) (wrap64 (x5 + 1))) else (none))) else (none))) else (none)) else (some x1)
def laws_heldPairS.f (k : Nat) (l0 : List (S140)) (a1 : Int) : Option (Int) := laws_heldPairS.l0 k l0 a1 0
theorem laws_heldPairS.mono_l : ∀ k, (∀ y0 y1 y2, LeO (laws_heldPairS.l0 k y0 y1 y2) (laws_heldPairS.l0 (k + 1) y0 y1 y2))
 | 0 => fun _ _ _ r h => by simp [laws_heldPairS.l0] at h
 | k + 1 => by
  have ih0 := laws_heldPairS.mono_l k
  ·intro y0 y1 y2
   unfold laws_heldPairS.l0
   repeat' first
   | (with_reducible exact ih0 _ _ _)
   | (with_reducible exact laws_markText.mono _ _)
   | (with_reducible exact LeO.refl _)
   | (with_reducible exact LeO.none _)
   | (with_reducible refine LeO.ite ?_ ?_)
   | (with_reducible refine LeO.bind ?_ (fun _ => ?_))
   | exact ih0 _ _ _
   | exact laws_markText.mono _ _
theorem laws_heldPairS.mono : ∀ a0 a1 k, LeO (laws_heldPairS.f k a0 a1) (laws_heldPairS.f (k + 1) a0 a1) := by
 intro a0 a1 k
 have ih0 := laws_heldPairS.mono_l k
 unfold laws_heldPairS.f
 repeat' first
   | (with_reducible exact ih0 _ _ _)
   | (with_reducible exact laws_markText.mono _ _)
   | (with_reducible exact LeO.refl _)
   | (with_reducible exact LeO.none _)
   | (with_reducible refine LeO.ite ?_ ?_)
   | (with_reducible refine LeO.bind ?_ (fun _ => ?_))
   | exact ih0 _ _ _
   | exact laws_markText.mono _ _
def laws_heldPairS.T4 : Bool × List (List Nat × List Nat) := (true, [([], []), ([], []), ([0, 1], [0, 1]), ([2], [2]), ([3], [3]), ([], []), ([5], [5]), ([4, 6], [4, 6])])
def laws_heldPairS.B4 : List Nat := [0, 0, 3, 7, 15, 0, 32, 127]
def laws_heldPairS.T7 : Bool × List (List Nat × List Nat) := (true, [([], []), ([], []), ([0, 1], [0, 1]), ([2], [2]), ([3], [3]), ([], []), ([5], [5]), ([4, 6], [4, 6])])
def laws_heldPairS.B7 : List Nat := [0, 0, 3, 7, 15, 0, 32, 127]
end Go.Proofs.Ytapholbdjccapaa.PFnExactTreeOk
namespace Go.Proofs
open Go.Shelf
def Try.lays189_ren : Go.Shelf.Ren := ⟨fun | 189 => 112 | 125 => 147 | 257 => 146 | 128 => 172 | 129 => 173 | 294 => 163 | 295 => 164 | 296 => 165 | 297 => 166 | 298 => 167 | 299 => 168 | 216 => 169 | 300 => 170 | 301 => 171 | 328 => 178 | 329 => 179 | 330 => 180 | 331 => 181 | 332 => 182 | 215 => 183 | 343 => 184 | n => n, fun | 28 => 30 | 3 => 3 | 46 => 172 | 0 => 0 | 51 => 173 | 53 => 218 | 4 => 4 | 183 => 209 | 182 => 208 | 131 => 214 | 5 => 5 | 9 => 9 | 218 => 220 | 222 => 224 | 228 => 226 | 229 => 227 | n => n, fun | n => n⟩
theorem Try.lays189 : Go.Proofs.Lays.n189 Try.prog Try.lays189_ren := {
 mixed := by kernel_rfl
 f125 := Try.func147.trans (congrArg some (by kernel_rfl))
 f128 := Try.func172.trans (congrArg some (by kernel_rfl))
 f129 := Try.func173.trans (congrArg some (by kernel_rfl))
 f189 := Try.func112.trans (congrArg some (by kernel_rfl))
 f215 := Try.func183.trans (congrArg some (by kernel_rfl))
 f216 := Try.func169.trans (congrArg some (by kernel_rfl))
 f257 := Try.func146.trans (congrArg some (by kernel_rfl))
 f294 := Try.func163.trans (congrArg some (by kernel_rfl))
 f295 := Try.func164.trans (congrArg some (by kernel_rfl))
 f296 := Try.func165.trans (congrArg some (by kernel_rfl))
 f297 := Try.func166.trans (congrArg some (by kernel_rfl))
 f298 := Try.func167.trans (congrArg some (by kernel_rfl))
 f299 := Try.func168.trans (congrArg some (by kernel_rfl))
 f300 := Try.func170.trans (congrArg some (by kernel_rfl))
 f301 := Try.func171.trans (congrArg some (by kernel_rfl))
 f328 := Try.func178.trans (congrArg some (by kernel_rfl))
 f329 := Try.func179.trans (congrArg some (by kernel_rfl))
 f330 := Try.func180.trans (congrArg some (by kernel_rfl))
 f331 := Try.func181.trans (congrArg some (by kernel_rfl))
 f332 := Try.func182.trans (congrArg some (by kernel_rfl))
 f343 := Try.func184.trans (congrArg some (by kernel_rfl))
 t0 := Try.underlying0
 a0 := Try.isAgg0
 z0 := Try.sizeOf0
 v0 := Try.zeroValue0
 t3 := Try.underlying3
 a3 := Try.isAgg3
 z3 := Try.sizeOf3
 v3 := Try.zeroValue3
 t4 := Try.underlying4
 a4 := Try.isAgg4
 z4 := Try.sizeOf4
 v4 := Try.zeroValue4
 t5 := Try.underlying5
 a5 := Try.isAgg5
 z5 := Try.sizeOf5
 v5 := Try.zeroValue5
 t9 := Try.underlying9
 a9 := Try.isAgg9
 z9 := Try.sizeOf9
 v9 := Try.zeroValue9
 t28 := Try.underlying30
 a28 := Try.isAgg30
 z28 := Try.sizeOf30
 v28 := Try.zeroValue30
 t46 := Try.underlying172
 a46 := Try.isAgg172
 z46 := Try.sizeOf172
 v46 := Try.zeroValue172
 t51 := Try.underlying173
 a51 := Try.isAgg173
 z51 := Try.sizeOf173
 v51 := Try.zeroValue173
 t53 := Try.underlying218
 a53 := Try.isAgg218
 z53 := Try.sizeOf218
 v53 := Try.zeroValue218
 t131 := Try.underlying214
 a131 := Try.isAgg214
 z131 := Try.sizeOf214
 v131 := Try.zeroValue214
 t182 := Try.underlying208
 a182 := Try.isAgg208
 z182 := Try.sizeOf208
 v182 := Try.zeroValue208
 t183 := Try.underlying209
 a183 := Try.isAgg209
 z183 := Try.sizeOf209
 v183 := Try.zeroValue209
 t218 := Try.underlying220
 a218 := Try.isAgg220
 z218 := Try.sizeOf220
 v218 := Try.zeroValue220
 t222 := Try.underlying224
 a222 := Try.isAgg224
 z222 := Try.sizeOf224
 v222 := Try.zeroValue224
 t228 := Try.underlying226
 a228 := Try.isAgg226
 z228 := Try.sizeOf226
 v228 := Try.zeroValue226
 t229 := Try.underlying227
 a229 := Try.isAgg227
 z229 := Try.sizeOf227
 v229 := Try.zeroValue227 }
open Go.Sort Go.RowKit in
theorem Try.slices_Sort_int (blk off cap : Nat) (zs : List Int) (w : World) (hH : Holds (Value.int .i64) w blk off zs.toArray) (hblk : blk < w.heap.size) (hsz : zs.length < 4611686018427387904) :
  Calls Try.prog 112 #[.slice (some ⟨blk, off, none⟩) zs.length cap] w fun e w' =>
   e = .returned (.tuple #[]) ∧ ∃ n os, w' = grow (putRow (Value.int .i64) (Sort.ahead w n) blk off (zs.mergeSort fun x y => decide (x ≤ y)).toArray) os := Any.slices_Sort_int Try.lays189 blk off cap zs w hH hblk hsz
open Go.RowKit Go.Sort in
theorem Try.slices_Sort_int_none (p : Option Addr) (cap : Nat) (w : World) :
  Calls Try.prog 112 #[.slice p 0 cap] w fun e w' => e = .returned (.tuple #[]) ∧ w' = w := Any.slices_Sort_int_none Try.lays189 p cap w
end Go.Proofs
namespace Go.Proofs.Ytapholbdjccapaa.PFnExactTreeOk
open Go.RowKit Go.Proofs.YtapholbdjccapaaW.PrintWords Go.Proofs.YtapholbdjccapaaW.PrintLast Go.Proofs.YtapholbdjccapaaW.PrintMore
attribute [local go_sem] max2_int min2_int max_two min_two max_three min_three max_four min_four
def srt (l : List Int) : List Int := l.mergeSort fun x y => decide (x ≤ y)
theorem srt_len (l : List Int) : (srt l).length = l.length := List.length_mergeSort _
theorem srt_perm (l : List Int) : (srt l).Perm l := List.mergeSort_perm _ _
theorem srt_sorted (l : List Int) : (srt l).Pairwise (· ≤ ·) := by
 have := List.pairwise_mergeSort (le := fun x y : Int => decide (x ≤ y)) (by intro a b c; simp; omega) (by intro a b; simp; omega) l
 simpa [srt] using this
theorem sorted_unique : ∀ (a b : List Int), a.Pairwise (· ≤ ·) → b.Pairwise (· ≤ ·) → a.Perm b → a = b
 | [], b, _, _, h => (List.nil_perm.1 h).symm
 | x :: a, [], _, _, h => absurd (List.perm_nil.1 h) (by simp)
 | x :: a, y :: b, ha, hb, h => by
  have h1 : y ≤ x := by
   rcases List.mem_cons.1 (h.mem_iff.1 (List.mem_cons_self)) with e | e
   ·omega
   ·exact (List.pairwise_cons.1 hb).1 x e
  have h2 : x ≤ y := by
   rcases List.mem_cons.1 (h.mem_iff.2 (List.mem_cons_self)) with e | e
   ·omega
   ·exact (List.pairwise_cons.1 ha).1 y e
  have e : x = y := by omega
  subst e
  rw [sorted_unique a b (List.pairwise_cons.1 ha).2 (List.pairwise_cons.1 hb).2 (List.perm_cons _ |>.1 h)]
theorem srt_eq {l s : List Int} (hs : s.Pairwise (· ≤ ·)) (hp : s.Perm l) : s = srt l := sorted_unique s (srt l) hs (srt_sorted l) (hp.trans (srt_perm l).symm)
theorem sort_own {W : World} {base : Nat} {A : Option Addr} {c : Nat} {xs : List Int} (h : Kd.R (Kd.int .i64) 3 W base (fun _ => True) (.slice A xs.length c) xs) (hlen : xs.length ≤ 2000000) :
  Calls Try.prog 112 #[.slice A xs.length c] W fun e W' => e = .returned (.tuple #[]) ∧ Kd.R (Kd.int .i64) 3 W' base (fun _ => True) (.slice A xs.length c) (srt xs) ∧ W.grownBy W' (Value.slice A xs.length c).ownBlock := by
 by_cases hz : xs.length = 0
 ·have e0 : xs = [] := List.length_eq_zero_iff.1 hz
  subst e0
  refine (Try.slices_Sort_int_none A c W).mono ?_
  rintro e W' ⟨rfl, rfl⟩
  exact ⟨rfl, by rw [show srt ([] : List Int) = [] from by simp [srt]]; exact h, World.grownBy.refl _ _⟩
 ·have ho := Kd.own_of_R h
  rcases ho.2 with ⟨h0, h1⟩ | ⟨g, cap, cur, hv, hg, hh, hn, hcap, hsz, ht⟩
  ·have := h1
   simp_all
  ·cases hv
   have hH := Go.holds_of_blockI (ss := xs) hh (by simpa [encs] using ht)
   refine (Try.slices_Sort_int g 0 c xs W hH (blk_lt hh) (by omega)).mono ?_
   rintro e W' ⟨rfl, n, os, rfl⟩
   refine ⟨rfl, ?_, ?_⟩
   ·have ho2 := Go.ownsRow_sortedI (n := n) (os := os) (ts := srt xs) (srt_len xs) hg hh hn hcap hsz
    have := Kd.R_of_own (enc := Value.int .i64) (h1 := fun _ => rfl) (ok := fun _ => True) (xs := srt xs) (v := .slice (some ⟨g, 0, none⟩) xs.length c) (by rw [srt_len]; simpa [encs] using ho2) (fun _ _ => trivial)
    exact this
   ·exact Go.grownBy_sortedI _
def SortI (ys : List Int) (m : Nat) : Prop := ∀ a b, a < b → b < m → ys.getD a 0 ≤ ys.getD b 0
def InsI (ys : List Int) (i k : Nat) : Prop := k ≤ i ∧ (∀ a b, a < b → b ≤ i → a ≠ k → b ≠ k → ys.getD a 0 ≤ ys.getD b 0) ∧ ∀ b, k < b → b ≤ i → ys.getD k 0 ≤ ys.getD b 0
theorem ins_start {ys : List Int} {i : Nat} (h : SortI ys i) : InsI ys i i := ⟨Nat.le_refl _, fun a b h1 h2 h3 h4 => h a b h1 (by omega), fun b h1 h2 => by omega⟩
theorem ins_done {ys : List Int} {i k : Nat} (h : InsI ys i k) (hk : k = 0 ∨ ys.getD (k - 1) 0 ≤ ys.getD k 0) : SortI ys (i + 1) := by
 intro a b h1 h2
 obtain ⟨h0, ha, hb⟩ := h
 by_cases e1 : a = k
 ·subst e1; exact hb b h1 (by omega)
 ·by_cases e2 : b = k
  ·subst e2
   rcases hk with hk | hk
   ·omega
   ·by_cases e3 : a = b - 1
    ·subst e3; exact hk
    ·exact Int.le_trans (ha a (b - 1) (by omega) (by omega) (by omega) (by omega)) hk
  ·exact ha a b h1 (by omega) e1 e2
theorem getD_set (ys : List Int) (k j : Nat) (u : Int) (hk : k < ys.length) : (ys.set k u).getD j 0 = if j = k then u else ys.getD j 0 := by
 by_cases h : j = k
 ·subst h; simp [List.getD_eq_getElem?_getD, List.getElem?_set, hk]
 ·rw [if_neg h]; simp [List.getD_eq_getElem?_getD, List.getElem?_set, Ne.symm h]
theorem ins_swap {ys : List Int} {i k m : Nat} (h : InsI ys i k) (hm : k = m + 1) (hk : k < ys.length) (hgt : ys.getD k 0 < ys.getD m 0) : InsI ((ys.set k (ys.getD m 0)).set m (ys.getD k 0)) i m := by
 obtain ⟨h0, ha, hb⟩ := h
 have hg : ∀ j, ((ys.set k (ys.getD m 0)).set m (ys.getD k 0)).getD j 0 = if j = m then ys.getD k 0 else if j = k then ys.getD m 0 else ys.getD j 0 := fun j => by
  rw [getD_set _ _ _ _ (by rw [List.length_set]; omega), getD_set _ _ _ _ hk]
 refine ⟨by omega, fun a b h1 h2 h3 h4 => ?_, fun b h1 h2 => ?_⟩
 ·rw [hg, hg, if_neg h3, if_neg h4]
  by_cases e1 : a = k
  ·rw [if_pos e1, if_neg (by omega)]
   exact ha m b (by omega) h2 (by omega) (by omega)
  ·rw [if_neg e1]
   by_cases e2 : b = k
   ·rw [if_pos e2]
    exact ha a m (by omega) (by omega) e1 (by omega)
   ·rw [if_neg e2]
    exact ha a b h1 h2 e1 e2
 ·rw [hg, hg, if_pos rfl, if_neg (by omega)]
  by_cases e2 : b = k
  ·rw [if_pos e2]; omega
  ·rw [if_neg e2]
   exact hb b (by omega) h2
theorem swap_perm {ys : List Int} {k m : Nat} (hm : m < ys.length) (hk : k < ys.length) : ((ys.set k (ys.getD m 0)).set m (ys.getD k 0)).Perm ys := by
 have h := @List.set_set_perm _ ys k m hk hm
 rwa [List.getD_eq_getElem?_getD, List.getD_eq_getElem?_getD, List.getElem?_eq_getElem hk, List.getElem?_eq_getElem hm]
theorem srt_of {ys xs : List Int} (hp : ys.Perm xs) (hs : SortI ys ys.length) : ys = srt xs := srt_eq (List.pairwise_iff_getElem.2 fun a b ha hb h => by
 have := hs a b h hb
 rwa [List.getD_eq_getElem?_getD, List.getD_eq_getElem?_getD, List.getElem?_eq_getElem ha, List.getElem?_eq_getElem hb] at this) hp
theorem l07Sorted_calls (A : Option Addr) (c : Nat) (xs : List Int) (w : World) (hr : Kd.C (Kd.int .i64) w A xs.length xs) (hlen : xs.length ≤ 2000000) :
  Calls Try.prog 111 #[.slice A xs.length c] w fun e w' => ∃ B d, e = .returned (.slice B xs.length d) ∧ Kd.R (Kd.int .i64) 3 w' w.heap.size (fun _ => True) (.slice B xs.length d) (srt xs) ∧ Below w.heap.size w w' := by
 have HR := Aside0.mk hr
 have HL := Aside0.mk hlen
 clear hr hlen
 go_enter Try.func111, Try.ntmps111
 go_wp2_with (((with_reducible refine gate_builtin (b := .append) (xs := #[.tmp 7, .tmp 8]) rfl ?_); at_builtin; refine Kd.R_append_rows (Kd.int .i64) (w0 := w) (Rr := Kd.K (Kd.int .i64) (w.alloc (.cells #[] 3))) w.heap.size rfl (.tmp 7) (.tmp 8) 30 3 (.int .i64 0) 8 rfl Try.underlying30 info3d rfl (by decide) (by decide) (.slice (some ⟨w.heap.size, 0, none⟩) 0 0) [] xs A xs.length c (fun _ => True) (fun _ => False) rfl rfl ⟨fun _ _ => trivial, [], World.ownsRow_made w #[] 0 (Nat.le_refl _) (by decide) (by simp), Reps.none _ _⟩ (Kd.C_below HR.out (below_alloc (Below.refl _ _) _)) (fun _ _ hk => hk) (fun _ hk => hk.elim) (fun _ _ => trivial) (below_alloc (Below.refl _ _) _) (by simp) (by have := HL.out; simp only [List.length_nil]; omega) ?_; intro v1 w1 hR hB _ _; rw [List.nil_append] at hR; have R1 := Aside0.mk hR; have B1 := Aside0.mk hB; obtain ⟨B, d, rfl⟩ := Kd.R_slice hR; clear hR hB))
 go_loopg [4] xs.length (fun gg s4 wr => ∃ (i : Nat) (ys : List Int), 1 ≤ i ∧ (i ≤ xs.length ∨ i = 1) ∧ xs.length - i ≤ gg ∧ s4 = .int .i64 i ∧ Aside0 (Kd.R (Kd.int .i64) 3 wr w.heap.size (fun _ => True) (.slice B xs.length d) ys) ∧ Aside0 (ys.Perm xs ∧ SortI ys i) ∧ Aside0 (Below w.heap.size w wr))
 case atStart => exact ⟨1, xs, by omega, .inr rfl, by omega, rfl, R1, ⟨List.Perm.refl _, fun a b h1 h2 => by omega⟩, B1⟩
 case round =>
  clear R1 B1
  obtain ⟨i, ys, h1, h2, hg, rfl, RY, HQ, HB⟩ := hrel
  by_cases hlt : i < xs.length
  ·have hltz : (i : Int) < (xs.length : Int) := by omega
   obtain ⟨g, cap, hv, hbg, hgl, _⟩ := Kd.R_form RY.out (by have := HQ.out.1.length_eq; omega)
   obtain rfl : B = some ⟨g, 0, none⟩ := by injection hv
   have HG := Aside0.mk hbg
   have HI := Aside0.mk (And.intro h1 hlt)
   clear hv hbg hgl h2
   go_wp2
   go_loopg [5] xs.length (fun gg s5 wq => ∃ (k : Nat) (zs : List Int), k ≤ gg ∧ k ≤ i ∧ s5 = .int .i64 k ∧ Aside0 (Kd.R (Kd.int .i64) 3 wq w.heap.size (fun _ => True) (.slice (some ⟨g, 0, none⟩) xs.length d) zs) ∧ Aside0 (zs.Perm xs ∧ InsI zs i k) ∧ Aside0 (Below w.heap.size w wq))
   case atStart => exact ⟨i, ys, by omega, Nat.le_refl _, rfl, RY, ⟨HQ.out.1, ins_start HQ.out.2⟩, HB⟩
   case round =>
    clear RY HQ HB
    obtain ⟨k, zs, hk1, hk2, rfl, RZ, HZ, HB⟩ := hrel
    have HN := Aside0.mk HZ.out.1.length_eq
    by_cases hk0 : 0 < k
    ·obtain ⟨m, hm⟩ : ∃ m, k = m + 1 := ⟨k - 1, by omega⟩
     have hmz : (m : Int) < (xs.length : Int) := by omega
     have hkz : (k : Int) < (xs.length : Int) := by omega
     have hck : wr.cell? ⟨g, k, none⟩ = some (.int .i64 (zs.getD k 0)) := (Kd.R_celln 0 RZ.out (k : Int) (by omega) hkz).1
     have hcm : wr.cell? ⟨g, m, none⟩ = some (.int .i64 (zs.getD m 0)) := (Kd.R_celln 0 RZ.out (m : Int) (by omega) hmz).1
     obtain ⟨y2, hy2⟩ : ∃ y, zs.getD k 0 = y := ⟨_, rfl⟩
     obtain ⟨y1, hy1⟩ : ∃ y, zs.getD m 0 = y := ⟨_, rfl⟩
     rw [hy2] at hck
     rw [hy1] at hcm
     have HY := Aside0.mk (And.intro hy2 hy1)
     have HM := Aside0.mk hm
     have hw1 : wrap64 ((k : Int) - 1) = (m : Int) := by have := HL.out; unfold wrap64; omega
     have hw2 : IntKind.i64.wrap ((k : Int) - 1) = (m : Int) := (i64_w _).trans hw1
     have HW := Aside0.mk hw1
     have hk0z : (0 : Int) < (k : Int) := by omega
     have hfk : wr.frozen? ⟨g, k, none⟩ = false := (Kd.R_celln 0 RZ.out (k : Int) (by omega) hkz).2
     have hfm : wr.frozen? ⟨g, m, none⟩ = false := (Kd.R_celln 0 RZ.out (m : Int) (by omega) hmz).2
     have hne : m ≠ k := by omega
     clear hy1 hy2 hm
     by_cases hgt : y2 < y1
     ·have hgb : decide (y2 < y1) = true := decide_eq_true hgt
      go_wp2
      repeat (go_quiet (fail); try go_wp2)
      clear hw1 hw2
      go_roundg m
      case measure => have := HM.out; omega
      case rel => exact ⟨m, (zs.set k y1).set m y2, Nat.le_refl _, by have := HM.out; omega, rfl, ⟨(Kd.R_putg (Kd.R_putg (Kd.R_drewN RZ.out _) (k : Int) y1).1 (m : Int) y2).1⟩, ⟨by
        have h := swap_perm (ys := zs) (k := k) (m := m) (by rw [HN.out]; have := HM.out; have := HI.out.2; omega) (by rw [HN.out]; have := HI.out.2; omega)
        rw [HY.out.1, HY.out.2] at h
        exact h.trans HZ.out.1, by
        have h := ins_swap HZ.out.2 HM.out (by rw [HN.out]; have := HI.out.2; omega) (by rw [HY.out.1, HY.out.2]; exact hgt)
        rwa [HY.out.1, HY.out.2] at h⟩, ⟨below_set (below_set (pw_below_drewN HB.out _) HG.out) HG.out⟩⟩
     ·have hgb : decide (y2 < y1) = false := decide_eq_false hgt
      go_wp2
      repeat (go_quiet (fail); try go_wp2)
      clear hw1 hw2
      have HV := Aside0.mk (show InsI zs i k ∧ (k = 0 ∨ zs.getD (k - 1) 0 ≤ zs.getD k 0) from ⟨HZ.out.2, .inr (by rw [HY.out.1, show k - 1 = m by have := HM.out; omega, HY.out.2]; omega)⟩)
      go_roundg (xs.length - (i + 1))
      case measure => omega
      case rel => exact ⟨i + 1, zs, by omega, .inl (by have := HI.out.2; omega), by omega, by first | rfl | exact congrArg (Value.int .i64) (show wrap64 ((i : Int) + 1) = ((i + 1 : Nat) : Int) by have := HL.out; have := HI.out.2; unfold wrap64; omega), ⟨Kd.R_drewN RZ.out _⟩, ⟨HZ.out.1, ins_done HV.out.1 HV.out.2⟩, ⟨pw_below_drewN HB.out _⟩⟩
    ·obtain rfl : k = 0 := by omega
     go_wp2
     repeat (go_quiet (fail); try go_wp2)
     have HV := Aside0.mk (show InsI zs i 0 ∧ (0 = 0 ∨ zs.getD (0 - 1) 0 ≤ zs.getD 0 0) from ⟨HZ.out.2, .inl rfl⟩)
     go_roundg (xs.length - (i + 1))
     case measure => omega
     case rel => exact ⟨i + 1, zs, by omega, .inl (by have := HI.out.2; omega), by omega, by first | rfl | exact congrArg (Value.int .i64) (show wrap64 ((i : Int) + 1) = ((i + 1 : Nat) : Int) by have := HL.out; have := HI.out.2; unfold wrap64; omega), ⟨Kd.R_drewN RZ.out _⟩, ⟨HZ.out.1, ins_done HV.out.1 HV.out.2⟩, ⟨pw_below_drewN HB.out _⟩⟩
  ·have hltz : ¬ (i : Int) < (xs.length : Int) := by omega
   have he : ys = srt xs := srt_of HQ.out.1 (fun a b ha hb => HQ.out.2 a b ha (by have := HQ.out.1.length_eq; omega))
   have HE := Aside0.mk he
   clear he
   go_wp2
   go_ret
   exact ⟨B, d, rfl, by rw [← HE.out]; exact RY.out, HB.out⟩
theorem pg_empty (W : World) (base : Nat) (hb : base ≤ W.heap.size) : Kd.R (Kd.int .i64) 3 (W.alloc (.cells #[] 3)) base (fun _ => True) (.slice (some ⟨W.heap.size, 0, none⟩) 0 0) [] :=
 ⟨fun _ _ => trivial, [], World.ownsRow_made W #[] 0 hb (by decide) (by simp), Reps.none _ _⟩
def pgOf (st : TSt) : List Int × Bool := if st.bad = true then ([], false) else (srt st.pg, true)
noncomputable def impl_PagesOf.f (l0_0 : List ByteArray) (l0_1 : List S189) (a1 : Int) : Option (List Int × Bool) := (rnOf l0_0 l0_1).map fun rn => pgOf (tof rn a1)
noncomputable def spec_PagesOf.f (l0_0 : List ByteArray) (l0_1 : List S189) (a1 : Int) : Option (List Int × Bool) := (rnOf l0_0 l0_1).map fun rn => pgOf (look rn a1)
theorem tof_pg {rn : Int → S68 × Bool} (hl : RnLen rn) (root : Int) : (tof rn root).pg.length ≤ 349524 := by
 unfold tof
 split
 ·simp [st0]
 ·have := (dn_len hl 9 st0 root 1).1
  rw [show st0.pg.length + nf 9 = 87381 from rfl] at this
  omega
theorem look_pg {rn : Int → S68 × Bool} (hl : RnLen rn) (root : Int) : (look rn root).pg.length ≤ 349524 := by
 unfold look
 split
 ·simp [ss0]
 ·have := (sw_len hl 9 ss0 root 0 ⟨#[]⟩ ⟨#[]⟩ false).1
  rw [show ss0.pg.length + nf 9 = 87381 from rfl] at this
  omega
theorem impl_PagesOf.calls (A0_0 : Option Addr) (c0_0 : Nat) (l0_0 : List ByteArray) (A0_1 : Option Addr) (c0_1 : Nat) (l0_1 : List S189) (a1 : Int) (r1 : List Int) (r2 : Bool) (w : World) (hr0_0 : Kd.C Kd.string w A0_0 l0_0.length l0_0) (hc0_0 : l0_0.length ≤ c0_0) (hr0_1 : Kd.C k189 w A0_1 l0_1.length l0_1) (hc0_1 : l0_1.length ≤ c0_1) (h : impl_PagesOf.f l0_0 l0_1 a1 = some (r1, r2)) :
  Calls Try.prog 50 #[.agg #[.slice A0_0 l0_0.length c0_0, .slice A0_1 l0_1.length c0_1], .int .i64 a1] w fun e w' => ∃ v0_ : Value, e = .returned (.tuple #[v0_, .bool r2]) ∧ Kd.R (Kd.int .i64) 3 w' w.heap.size (fun _ => True) v0_ r1 ∧ Below w.heap.size w w' := by
 obtain ⟨rn, h1, h2⟩ := Option.map_eq_some_iff.1 h
 have HP := Aside0.mk hr0_0
 have HL := Aside0.mk hr0_1
 have HRN := Aside0.mk (rnOf_some h1).1
 have hlen := tof_pg (rnOf_some h1).1.len a1
 obtain ⟨st, hs⟩ : ∃ z, tof rn a1 = z := ⟨_, rfl⟩
 rw [hs] at h2 hlen
 obtain ⟨pg, pr, dp, order, bad⟩ := st
 have HST := Aside0.mk hs
 have HR := Aside0.mk h2
 have HN : Aside0 (pg.length ≤ 349524) := ⟨hlen⟩
 clear hr0_0 hr0_1 h h1 h2 hs hlen
 cases bad with
 | true =>
  obtain ⟨rfl, rfl⟩ : [] = r1 ∧ false = r2 := Prod.mk.inj HR.out
  go_enter Try.func50, Try.ntmps50
  go_wp2_with fail
  ((with_reducible refine (treeOf_calls A0_0 c0_0 l0_0 A0_1 c0_1 l0_1 _ (Kd.C_below HP.out (below_alloc (Below.refl _ _) _)) hc0_0 (Kd.C_below HL.out (below_alloc (Below.refl _ _) _)) hc0_1 rn HRN.out a1).mono ?_); rintro e w1 ⟨g, Ag, cg, Ap, cp, Ad, cd, rfl, T1⟩)
  rw [HST.out] at T1
  simp only at T1
  have T2 := Aside0.mk T1
  have HB2 := Aside0.mk (below_step (below_alloc (Below.refl w.heap.size w) (.cells #[.slice A0_0 l0_0.length c0_0, .slice A0_1 l0_1.length c0_1] 41)) T1.bel)
  have hsz := Aside0.mk (show w.heap.size ≤ (w.alloc (.cells #[.slice A0_0 l0_0.length c0_0, .slice A0_1 l0_1.length c0_1] 41)).heap.size by simp)
  clear T1
  have hgl := blk_lt T2.out.bT
  have hd6 : w1.cell? ⟨g, 6, none⟩ = some (.bool true) := (blk_cell T2.out.bT 6).trans rfl
  have hp : w1.cell? ⟨g, 2, none⟩ = some (.slice Ag pg.length cg) := (blk_cell T2.out.bT 2).trans rfl
  go_wp2
  refine bodyPost_ret (results_list (rs := [.tmp 4, .tmp 5]) rfl (by simp) (Vals.tmp (Vals.tmp Vals.nil))) rfl ?_
  exact ⟨_, rfl, Kd.R_nil _ _ _ _ _, HB2.out⟩
 | false =>
  obtain ⟨rfl, rfl⟩ : srt pg = r1 ∧ true = r2 := Prod.mk.inj HR.out
  go_enter Try.func50, Try.ntmps50
  go_wp2_with fail
  ((with_reducible refine (treeOf_calls A0_0 c0_0 l0_0 A0_1 c0_1 l0_1 _ (Kd.C_below HP.out (below_alloc (Below.refl _ _) _)) hc0_0 (Kd.C_below HL.out (below_alloc (Below.refl _ _) _)) hc0_1 rn HRN.out a1).mono ?_); rintro e w1 ⟨g, Ag, cg, Ap, cp, Ad, cd, rfl, T1⟩)
  rw [HST.out] at T1
  simp only at T1
  have T2 := Aside0.mk T1
  have HB2 := Aside0.mk (below_step (below_alloc (Below.refl w.heap.size w) (.cells #[.slice A0_0 l0_0.length c0_0, .slice A0_1 l0_1.length c0_1] 41)) T1.bel)
  have hsz := Aside0.mk (show w.heap.size ≤ (w.alloc (.cells #[.slice A0_0 l0_0.length c0_0, .slice A0_1 l0_1.length c0_1] 41)).heap.size by simp)
  clear T1
  have hgl := blk_lt T2.out.bT
  have hd6 : w1.cell? ⟨g, 6, none⟩ = some (.bool false) := (blk_cell T2.out.bT 6).trans rfl
  have hp : w1.cell? ⟨g, 2, none⟩ = some (.slice Ag pg.length cg) := (blk_cell T2.out.bT 2).trans rfl
  go_wp2_with fail
  ((with_reducible refine (sort_own T2.out.rg (by have := HN.out; omega)).mono ?_); rintro e w2 ⟨rfl, ho, hgr⟩)
  have bT2 := Aside0.mk (blk_grown T2.out.bT hgr (Kd.R_ne T2.out.rg T2.out.bT (by decide)))
  have HO := Aside0.mk ho
  have HB3 := Aside0.mk (HB2.out.grown hgr HB2.out.size (fun k hk => Nat.le_trans hsz.out (Kd.R_base T2.out.rg k hk)))
  clear ho hgr hp hd6 hgl
  have hgl := blk_lt bT2.out
  have hp : w2.cell? ⟨g, 2, none⟩ = some (.slice Ag pg.length cg) := (blk_cell bT2.out 2).trans rfl
  go_wp2
  refine bodyPost_ret (results_list (rs := [.tmp 4, .tmp 5]) rfl (by simp) (Vals.tmp (Vals.tmp Vals.nil))) rfl ?_
  exact ⟨_, rfl, Kd.R_lower HO.out hsz.out, HB3.out⟩
theorem spec_PagesOf.calls (A0_0 : Option Addr) (c0_0 : Nat) (l0_0 : List ByteArray) (A0_1 : Option Addr) (c0_1 : Nat) (l0_1 : List S189) (a1 : Int) (r1 : List Int) (r2 : Bool) (w : World) (hr0_0 : Kd.C Kd.string w A0_0 l0_0.length l0_0) (hc0_0 : l0_0.length ≤ c0_0) (hr0_1 : Kd.C k189 w A0_1 l0_1.length l0_1) (hc0_1 : l0_1.length ≤ c0_1) (h : spec_PagesOf.f l0_0 l0_1 a1 = some (r1, r2)) :
  Calls Try.prog 49 #[.agg #[.slice A0_0 l0_0.length c0_0, .slice A0_1 l0_1.length c0_1], .int .i64 a1] w fun e w' => ∃ v0_ : Value, e = .returned (.tuple #[v0_, .bool r2]) ∧ Kd.R (Kd.int .i64) 3 w' w.heap.size (fun _ => True) v0_ r1 ∧ Below w.heap.size w w' := by
 obtain ⟨rn, h1, h2⟩ := Option.map_eq_some_iff.1 h
 have HP := Aside0.mk hr0_0
 have HL := Aside0.mk hr0_1
 have HRN := Aside0.mk (rnOf_some h1).2
 have hlen := look_pg (rnOf_some h1).1.len a1
 obtain ⟨st, hs⟩ : ∃ z, look rn a1 = z := ⟨_, rfl⟩
 rw [hs] at h2 hlen
 obtain ⟨pg, pr, dp, order, bad⟩ := st
 have HST := Aside0.mk hs
 have HR := Aside0.mk h2
 have HN : Aside0 (pg.length ≤ 349524) := ⟨hlen⟩
 clear hr0_0 hr0_1 h h1 h2 hs hlen
 cases bad with
 | true =>
  obtain ⟨rfl, rfl⟩ : [] = r1 ∧ false = r2 := Prod.mk.inj HR.out
  go_enter Try.func49, Try.ntmps49
  go_wp2_with fail
  ((with_reducible refine (l07Look_calls A0_0 c0_0 l0_0 A0_1 c0_1 l0_1 _ (Kd.C_below HP.out (below_alloc (Below.refl _ _) _)) hc0_0 (Kd.C_below HL.out (below_alloc (Below.refl _ _) _)) hc0_1 rn HRN.out a1).mono ?_); rintro e w1 ⟨g, Ag, cg, Ap, cp, Ad, cd, rfl, T1⟩)
  rw [HST.out] at T1
  simp only at T1
  have T2 := Aside0.mk T1
  have HB2 := Aside0.mk (below_step (below_alloc (Below.refl w.heap.size w) (.cells #[.slice A0_0 l0_0.length c0_0, .slice A0_1 l0_1.length c0_1] 41)) T1.bel)
  have hsz := Aside0.mk (show w.heap.size ≤ (w.alloc (.cells #[.slice A0_0 l0_0.length c0_0, .slice A0_1 l0_1.length c0_1] 41)).heap.size by simp)
  clear T1
  have hgl := blk_lt T2.out.bT
  have hd3 : w1.cell? ⟨g, 3, none⟩ = some (.bool true) := (blk_cell T2.out.bT 3).trans rfl
  have hp : w1.cell? ⟨g, 1, none⟩ = some (.slice Ag pg.length cg) := (blk_cell T2.out.bT 1).trans rfl
  go_wp2
  refine bodyPost_ret (results_list (rs := [.tmp 4, .tmp 5]) rfl (by simp) (Vals.tmp (Vals.tmp Vals.nil))) rfl ?_
  exact ⟨_, rfl, pg_empty _ _ HB2.out.size, below_alloc HB2.out _⟩
 | false =>
  obtain ⟨rfl, rfl⟩ : srt pg = r1 ∧ true = r2 := Prod.mk.inj HR.out
  go_enter Try.func49, Try.ntmps49
  go_wp2_with fail
  ((with_reducible refine (l07Look_calls A0_0 c0_0 l0_0 A0_1 c0_1 l0_1 _ (Kd.C_below HP.out (below_alloc (Below.refl _ _) _)) hc0_0 (Kd.C_below HL.out (below_alloc (Below.refl _ _) _)) hc0_1 rn HRN.out a1).mono ?_); rintro e w1 ⟨g, Ag, cg, Ap, cp, Ad, cd, rfl, T1⟩)
  rw [HST.out] at T1
  simp only at T1
  have T2 := Aside0.mk T1
  have HB2 := Aside0.mk (below_step (below_alloc (Below.refl w.heap.size w) (.cells #[.slice A0_0 l0_0.length c0_0, .slice A0_1 l0_1.length c0_1] 41)) T1.bel)
  have hsz := Aside0.mk (show w.heap.size ≤ (w.alloc (.cells #[.slice A0_0 l0_0.length c0_0, .slice A0_1 l0_1.length c0_1] 41)).heap.size by simp)
  clear T1
  have hgl := blk_lt T2.out.bT
  have hd3 : w1.cell? ⟨g, 3, none⟩ = some (.bool false) := (blk_cell T2.out.bT 3).trans rfl
  have hp : w1.cell? ⟨g, 1, none⟩ = some (.slice Ag pg.length cg) := (blk_cell T2.out.bT 1).trans rfl
  go_wp2_with fail
  ((with_reducible refine (l07Sorted_calls Ag cg pg _ (R_seen T2.out.rg).2 (by have := HN.out; omega)).mono ?_); rintro e w2 ⟨B, d, rfl, ho, hb⟩)
  have HO := Aside0.mk ho
  have HB3 := Aside0.mk (below_step HB2.out hb)
  clear ho hb hp hd3 hgl
  go_wp2
  refine bodyPost_ret (results_list (rs := [.tmp 4, .tmp 5]) rfl (by simp) (Vals.tmp (Vals.tmp Vals.nil))) rfl ?_
  exact ⟨_, rfl, Kd.R_lower HO.out HB2.out.size, HB3.out⟩
theorem info3 : (Try.prog.info? 3).map (fun i => (i.zero, i.size, i.bytes)) = some (some (.int .i64 0), 1, 8) := by kernel_rfl
def laws_eqIntS.l0 : Nat → List Int → List Int → Int → Option (Bool)
 | 0, _, _, _ => none
 | k + 1, x0, x1, x5 => if x5 < (x0.length : Int) then (if 0 ≤ x5 then (if x5 < (x1.length : Int) then (if (rd x0 x5) = (rd x1 x5) then (laws_eqIntS.l0 k x0 x1 (wrap64 (x5 + 1))) else (none)) else (none)) else (none)) else (some true)
def laws_eqIntS.f (k : Nat) (l0 : List Int) (l1 : List Int) : Option (Bool) := if (l0.length : Int) = (l1.length : Int) then (laws_eqIntS.l0 k l0 l1 0) else (none)
theorem laws_eqIntS.mono_l : ∀ k, (∀ y0 y1 y2, LeO (laws_eqIntS.l0 k y0 y1 y2) (laws_eqIntS.l0 (k + 1) y0 y1 y2))
 | 0 => fun _ _ _ r h => by simp [laws_eqIntS.l0] at h
 | k + 1 => by
  have ih0 := laws_eqIntS.mono_l k
  ·intro y0 y1 y2
   unfold laws_eqIntS.l0
   repeat' first
   | (with_reducible exact ih0 _ _ _)
   | (with_reducible exact LeO.refl _)
   | (with_reducible exact LeO.none _)
   | (with_reducible refine LeO.ite ?_ ?_)
   | (with_reducible refine LeO.bind ?_ (fun _ => ?_))
   | exact ih0 _ _ _
theorem laws_eqIntS.mono : ∀ a0 a1 k, LeO (laws_eqIntS.f k a0 a1) (laws_eqIntS.f (k + 1) a0 a1) := by
 intro a0 a1 k
 have ih0 := laws_eqIntS.mono_l k
 unfold laws_eqIntS.f
 repeat' first
   | (with_reducible exact ih0 _ _ _)
   | (with_reducible exact LeO.refl _)
   | (with_reducible exact LeO.none _)
   | (with_reducible refine LeO.ite ?_ ?_)
   | (with_reducible refine LeO.bind ?_ (fun _ => ?_))
   | exact ih0 _ _ _
theorem laws_eqIntS.calls (k : Nat) (A0 : Option Addr) (c0 : Nat) (l0 : List Int) (A1 : Option Addr) (c1 : Nat) (l1 : List Int) (r : Bool) (w : World) (hr0 : Kd.C (Kd.int .i64) w A0 l0.length l0) (hc0 : l0.length ≤ c0) (hr1 : Kd.C (Kd.int .i64) w A1 l1.length l1) (hc1 : l1.length ≤ c1) (h : laws_eqIntS.f k l0 l1 = some r) :
  Calls Try.prog 51 #[.slice A0 l0.length c0, .slice A1 l1.length c1] w fun e w' => e = .returned (.bool r) ∧ Drawn0 w w' := by
 have HR0 := Aside0.mk hr0
 have HC0 := Aside0.mk hc0
 clear hr0 hc0
 have HR1 := Aside0.mk hr1
 have HC1 := Aside0.mk hc1
 clear hr1 hc1
 have H : (if (l0.length : Int) = (l1.length : Int) then (laws_eqIntS.l0 k l0 l1 0) else (none)) = some r := h
 clear h
 by_cases c3 : (l0.length : Int) = (l1.length : Int)
 ·rw [if_pos c3] at H
  have c3b0 : ((l0.length : Int) == (l1.length : Int)) = true := beq_iff_eq.mpr c3
  have c3b1 : ((l0.length : Int) != (l1.length : Int)) = false := bne_eq_false_iff_eq.mpr c3
  have c3b2 : (l0.length == l1.length) = true := by first | simpa using c3 | (simp at c3 ⊢; omega)
  clear c3
  have H' := Aside0.mk H
  clear H
  go_enter Try.func51, Try.ntmps51
  go_wp2
  repeat (go_quiet (fail); try go_wp2)
  go_loopg [5] k (fun kq v5 w' => ∃ (x5_1 : Int), v5 = .int .i64 x5_1 ∧ Aside0 (laws_eqIntS.l0 kq l0 l1 x5_1 = some r) ∧ Aside0 (kq ≤ k) ∧ Drawn0 w w')
  case atStart => exact ⟨(0), (by first | rfl | (simp; done) | (simp [*]; done)), H', ⟨Nat.le_refl _⟩, by repeat (first | exact Drawn0.refl _ | apply Drawn0.step)⟩
  case round =>
   clear H'
   try clear c1
   try clear c3
   try clear c3b0
   try clear c3b1
   try clear c3b2
   obtain ⟨x5_1, rfl, HA, HK1, ⟨m1, rfl⟩⟩ := hrel
   cases gk with
   | zero => exact absurd HA.out (by simp [laws_eqIntS.l0])
   | succ k1 =>
    have H := HA.out
    clear HA
    simp only [laws_eqIntS.l0] at H
    by_cases c4 : x5_1 < (l0.length : Int)
    ·rw [if_pos c4] at H
     have c4b0 : decide (x5_1 < (l0.length : Int)) = true := decide_eq_true c4
     clear c4
     by_cases c5 : 0 ≤ x5_1
     ·rw [if_pos c5] at H
      have c5b0 : decide (0 ≤ x5_1) = true := decide_eq_true c5
      clear c5
      by_cases c6 : x5_1 < (l1.length : Int)
      ·rw [if_pos c6] at H
       have c6b0 : decide (x5_1 < (l1.length : Int)) = true := decide_eq_true c6
       clear c6
       by_cases c7 : (rd l0 x5_1) = (rd l1 x5_1)
       ·rw [if_pos c7] at H
        have c7b0 : ((rd l0 x5_1) == (rd l1 x5_1)) = true := beq_iff_eq.mpr c7
        have c7b1 : ((rd l0 x5_1) != (rd l1 x5_1)) = false := bne_eq_false_iff_eq.mpr c7
        clear c7
        have H' := Aside0.mk H
        clear H
        have p395 : 0 ≤ (x5_1 : Int) := of_decide_eq_true (by with_reducible assumption)
        have q395 : x5_1 < (l0.length : Int) := of_decide_eq_true (by with_reducible assumption)
        obtain ⟨ad395, e395, hx395_0⟩ := Kd.at_int HR0.out x5_1 p395 q395
        cases e395
        replace p395 := eq_true p395
        replace q395 := eq_true q395
        have p396 : 0 ≤ (x5_1 : Int) := of_decide_eq_true (by with_reducible assumption)
        have q396 : x5_1 < (l1.length : Int) := of_decide_eq_true (by with_reducible assumption)
        obtain ⟨ad396, e396, hx396_0⟩ := Kd.at_int HR1.out x5_1 p396 q396
        cases e396
        replace p396 := eq_true p396
        replace q396 := eq_true q396
        go_wp2
        repeat (go_quiet (fail); try go_wp2)
        go_roundg k1
        case measure => have := HK1.out; omega
        case rel => exact ⟨(wrap64 (x5_1 + 1)), (by first | rfl | (simp; done) | (simp [*]; done)), H', ⟨by have := HK1.out; omega⟩, by repeat (first | exact Drawn0.refl _ | apply Drawn0.step)⟩
       ·rw [if_neg c7] at H
        exact absurd H (by simp)
      ·rw [if_neg c6] at H
       exact absurd H (by simp)
     ·rw [if_neg c5] at H
      exact absurd H (by simp)
    ·rw [if_neg c4] at H
     have c4b0 : decide (x5_1 < (l0.length : Int)) = false := decide_eq_false c4
     clear c4
     obtain rfl := Option.some.inj H
     go_wp2
     repeat (go_quiet (fail); try go_wp2)
     go_ret
     exact ⟨by first | rfl | (simp; done) | (simp [*]; done), by repeat (first | exact Drawn0.refl _ | apply Drawn0.step)⟩
 ·rw [if_neg c3] at H
  exact absurd H (by simp)
def laws_markIntS.l0 : Nat → List Int → Int → Int → Option (Int × List Int)
 | 0, _, _, _ => none
 | k + 1, x0, x1, x5 => if x5 < (x0.length : Int) then (if 0 ≤ x5 then (laws_markIntS.l0 k (x0.set (x5 : Int).toNat x1) (wrap64 (x1 + 1)) (wrap64 (x5 + 1))) else (none)) else (some (x1, x0))
def laws_markIntS.f (k : Nat) (l0 : List Int) (a1 : Int) : Option (Int × List Int) := laws_markIntS.l0 k l0 a1 0
theorem laws_markIntS.mono_l : ∀ k, (∀ y0 y1 y2, LeO (laws_markIntS.l0 k y0 y1 y2) (laws_markIntS.l0 (k + 1) y0 y1 y2))
 | 0 => fun _ _ _ r h => by simp [laws_markIntS.l0] at h
 | k + 1 => by
  have ih0 := laws_markIntS.mono_l k
  ·intro y0 y1 y2
   unfold laws_markIntS.l0
   repeat' first
   | (with_reducible exact ih0 _ _ _)
   | (with_reducible exact LeO.refl _)
   | (with_reducible exact LeO.none _)
   | (with_reducible refine LeO.ite ?_ ?_)
   | (with_reducible refine LeO.bind ?_ (fun _ => ?_))
   | exact ih0 _ _ _
theorem laws_markIntS.mono : ∀ a0 a1 k, LeO (laws_markIntS.f k a0 a1) (laws_markIntS.f (k + 1) a0 a1) := by
 intro a0 a1 k
 have ih0 := laws_markIntS.mono_l k
 unfold laws_markIntS.f
 repeat' first
   | (with_reducible exact ih0 _ _ _)
   | (with_reducible exact LeO.refl _)
   | (with_reducible exact LeO.none _)
   | (with_reducible refine LeO.ite ?_ ?_)
   | (with_reducible refine LeO.bind ?_ (fun _ => ?_))
   | exact ih0 _ _ _
def laws_heldIntS.l0 : Nat → List Int → Int → Int → Option (Int)
 | 0, _, _, _ => none
 | k + 1, x0, x1, x5 => if x5 < (x0.length : Int) then (if 0 ≤ x5 then (if (rd x0 x5) = x1 then (laws_heldIntS.l0 k x0 (wrap64 (x1 + 1)) (wrap64 (x5 + 1))) else (none)) else (none)) else (some x1)
def laws_heldIntS.f (k : Nat) (l0 : List Int) (a1 : Int) : Option (Int) := laws_heldIntS.l0 k l0 a1 0
theorem laws_heldIntS.mono_l : ∀ k, (∀ y0 y1 y2, LeO (laws_heldIntS.l0 k y0 y1 y2) (laws_heldIntS.l0 (k + 1) y0 y1 y2))
 | 0 => fun _ _ _ r h => by simp [laws_heldIntS.l0] at h
 | k + 1 => by
  have ih0 := laws_heldIntS.mono_l k
  ·intro y0 y1 y2
   unfold laws_heldIntS.l0
   repeat' first
   | (with_reducible exact ih0 _ _ _)
   | (with_reducible exact LeO.refl _)
   | (with_reducible exact LeO.none _)
   | (with_reducible refine LeO.ite ?_ ?_)
   | (with_reducible refine LeO.bind ?_ (fun _ => ?_))
   | exact ih0 _ _ _
theorem laws_heldIntS.mono : ∀ a0 a1 k, LeO (laws_heldIntS.f k a0 a1) (laws_heldIntS.f (k + 1) a0 a1) := by
 intro a0 a1 k
 have ih0 := laws_heldIntS.mono_l k
 unfold laws_heldIntS.f
 repeat' first
   | (with_reducible exact ih0 _ _ _)
   | (with_reducible exact LeO.refl _)
   | (with_reducible exact LeO.none _)
   | (with_reducible refine LeO.ite ?_ ?_)
   | (with_reducible refine LeO.bind ?_ (fun _ => ?_))
   | exact ih0 _ _ _
theorem pages_same {rn : Int → S68 × Bool} (hg : RnG rn) (root : Int) : pgOf (tof rn root) = pgOf (look rn root) := by
 unfold tof look
 by_cases hr : root = 0
 ·rw [if_pos hr, if_pos hr]
  rfl
 ·rw [if_neg hr, if_neg hr]
  have h := sync hg 9 0 st0 ss0 root ⟨#[]⟩ ⟨#[]⟩ false ⟨rfl, rfl, rfl, rfl, rfl⟩
  rw [Int.zero_add] at h
  unfold pgOf
  rcases h with ⟨h1, h2⟩ | ⟨⟨s1, s2, s3, s4, s5⟩, _⟩
  ·rw [if_pos h1, if_pos h2]
  ·rw [s4, s5, s1]
theorem eqI_go (l : List Int) (hl : l.length ≤ 1048576) : ∀ (n i : Nat), i + n = l.length → laws_eqIntS.l0 (n + 1) l l (i : Int) = some true := by
 intro n
 induction n with
 | zero => intro i hi; rw [laws_eqIntS.l0, if_neg (by omega)]
 | succ n ih =>
  intro i hi
  rw [laws_eqIntS.l0, if_pos (by omega), if_pos (by omega), if_pos (by omega), if_pos rfl, wrap_in (by omega) (by omega), show (i : Int) + 1 = ((i + 1 : Nat) : Int) by omega]
  exact ih (i + 1) (by omega)
theorem eqI_ev (l : List Int) (hl : l.length ≤ 1048576) : Ev (fun k => laws_eqIntS.f k l l) true := by
 refine Ev.of (k := l.length + 1) (fun k => laws_eqIntS.mono _ _ k) ?_
 unfold laws_eqIntS.f
 rw [if_pos rfl]
 exact eqI_go l hl l.length 0 (by omega)
theorem info109 : (Try.prog.info? 109).map (fun i => (i.zero, i.size, i.bytes)) = some (some (.agg #[(.int .i64 0), (.slice none 0 0)]), 2, 32) := by kernel_rfl
structure S198 where
 f0 : Int
 f1 : (List Int)
def z198 : S198 := ⟨(0 : Int), ([] : List Int)⟩
def k198 : Kd S198 := Kd.iso (Kd.pair (Kd.int .i64) (Kd.slice 3 (Kd.int .i64))) (fun x : S198 => (x.f0, x.f1))
theorem k198_open {w : World} {x : S198} {cs : List Value} (h : k198.K w x cs) : ∃ A1 c1, cs = [.int .i64 x.f0, .slice A1 x.f1.length c1] ∧ x.f1.length ≤ c1 ∧ (Kd.int .i64).C w A1 x.f1.length x.f1 := by
 obtain ⟨_, _, rfl, rfl, ⟨A1, c1, rfl, l1, g1⟩⟩ := h
 exact ⟨A1, c1, rfl, l1, g1⟩
def rd_T198 (xs : List S198) (i : Int) : S198 := xs.getD i.toNat z198
theorem at_T198 {w : World} {A : Option Addr} {n : Nat} {xs : List S198} (h : Kd.C k198 w A n xs) (i : Int) (h0 : 0 ≤ i) (h1 : i < n) : ∃ ad A1 c1, A = some ad ∧ w.cell? (ad.add (i.toNat * 2)) = some (.int .i64 (rd_T198 xs i).f0) ∧ w.cell? ⟨(ad.add (i.toNat * 2)).block, (ad.add (i.toNat * 2)).off + 1, none⟩ = some (.slice A1 (rd_T198 xs i).f1.length c1) ∧ (rd_T198 xs i).f1.length ≤ c1 ∧ (Kd.int .i64).C w A1 (rd_T198 xs i).f1.length (rd_T198 xs i).f1 := by
 obtain ⟨ad, c, e, _, hK, hc0⟩ := Kd.C_get h z198 i h0 h1
 have hc : ∀ j u, c[j]? = some u → w.cell? (ad.add (i.toNat * 2 + j)) = some u := hc0
 obtain ⟨A1, c1, rfl, l1, g1⟩ := k198_open hK
 exact ⟨ad, A1, c1, e, hc 0 _ rfl, by rw [← add_field _ _ 1 (by omega)]; exact hc 1 _ rfl, l1, g1⟩
structure S109 where
 f0 : Int
 f1 : (List Int)
def z109 : S109 := ⟨(0 : Int), ([] : List Int)⟩
def k109 : Kd S109 := Kd.iso (Kd.pair (Kd.int .i64) (Kd.slice 3 (Kd.int .i64))) (fun x : S109 => (x.f0, x.f1))
theorem k109_open {w : World} {x : S109} {cs : List Value} (h : k109.K w x cs) : ∃ A1 c1, cs = [.int .i64 x.f0, .slice A1 x.f1.length c1] ∧ x.f1.length ≤ c1 ∧ (Kd.int .i64).C w A1 x.f1.length x.f1 := by
 obtain ⟨_, _, rfl, rfl, ⟨A1, c1, rfl, l1, g1⟩⟩ := h
 exact ⟨A1, c1, rfl, l1, g1⟩
theorem k109_openM {w : World} {base : Nat} {ok : Nat → Prop} {x : S109} {cs : List Value} (h : k109.M w base ok x cs) : ∃ v1, cs = [.int .i64 x.f0, v1] ∧ (Kd.int .i64).R 3 w base ok v1 x.f1 := by
 obtain ⟨_, _, rfl, rfl, ⟨v1, rfl, g1⟩⟩ := h
 exact ⟨v1, rfl, g1⟩
theorem k109_mkM (w : World) (base : Nat) (ok : Nat → Prop) (x : S109) {v1 : Value} (g1 : (Kd.int .i64).R 3 w base ok v1 x.f1) : k109.M w base ok x [.int .i64 x.f0, v1] := ⟨[.int .i64 x.f0], [v1], rfl, rfl, ⟨v1, rfl, g1⟩⟩
def rd_T109 (xs : List S109) (i : Int) : S109 := xs.getD i.toNat z109
theorem at_T109 {w : World} {A : Option Addr} {n : Nat} {xs : List S109} (h : Kd.C k109 w A n xs) (i : Int) (h0 : 0 ≤ i) (h1 : i < n) : ∃ ad A1 c1, A = some ad ∧ w.cell? (ad.add (i.toNat * 2)) = some (.int .i64 (rd_T109 xs i).f0) ∧ w.cell? ⟨(ad.add (i.toNat * 2)).block, (ad.add (i.toNat * 2)).off + 1, none⟩ = some (.slice A1 (rd_T109 xs i).f1.length c1) ∧ (rd_T109 xs i).f1.length ≤ c1 ∧ (Kd.int .i64).C w A1 (rd_T109 xs i).f1.length (rd_T109 xs i).f1 := by
 obtain ⟨ad, c, e, _, hK, hc0⟩ := Kd.C_get h z109 i h0 h1
 have hc : ∀ j u, c[j]? = some u → w.cell? (ad.add (i.toNat * 2 + j)) = some u := hc0
 obtain ⟨A1, c1, rfl, l1, g1⟩ := k109_open hK
 exact ⟨ad, A1, c1, e, hc 0 _ rfl, by rw [← add_field _ _ 1 (by omega)]; exact hc 1 _ rfl, l1, g1⟩
def flatF (l : List S109) : List Int := (l.map S109.f1).flatten
theorem flatF_succ (l : List S109) (i : Nat) (h : i < l.length) : flatF (l.take (i + 1)) = flatF (l.take i) ++ l[i].f1 := by
 unfold flatF
 rw [List.take_succ_eq_append_getElem h, List.map_append, List.flatten_append]
 simp
theorem flatF_le (l : List S109) (i : Nat) : (flatF (l.take i)).length ≤ (flatF l).length := by
 have h : flatF l = flatF (l.take i) ++ flatF (l.drop i) := by unfold flatF; rw [← List.flatten_append, ← List.map_append, List.take_append_drop]
 rw [h, List.length_append]
 omega
theorem flatF_le1 (l : List S109) (i : Nat) (h : i < l.length) : (flatF (l.take i)).length + l[i].f1.length ≤ (flatF l).length := by
 have := flatF_le l (i + 1)
 rw [flatF_succ l i h, List.length_append] at this
 exact this
def catF (pg : List Int) (l : List S109) (i : Nat) : List Int := pg ++ flatF (l.take i)
theorem catF_zero (pg : List Int) (l : List S109) : catF pg l 0 = pg := by simp [catF, flatF]
theorem catF_all (pg : List Int) (l : List S109) : catF pg l l.length = pg ++ flatF l := by simp [catF]
theorem catF_succ (pg : List Int) (l : List S109) (i : Nat) (h : i < l.length) : catF pg l (i + 1) = catF pg l i ++ l[i].f1 := by
 unfold catF
 rw [flatF_succ l i h, List.append_assoc]
theorem catF_len (pg : List Int) (l : List S109) (i : Nat) : (catF pg l i).length = pg.length + (flatF (l.take i)).length := List.length_append
def seqB (s : List Int) : Bool := (List.range s.length).all fun i => s.getD i 0 == (i : Int) + 2
theorem seqB_true {s : List Int} (h : ∀ i, i < s.length → s.getD i 0 = (i : Int) + 2) : seqB s = true := by
 unfold seqB
 rw [List.all_eq_true]
 intro i hi
 rw [List.mem_range] at hi
 exact beq_iff_eq.2 (h i hi)
theorem seqB_false {s : List Int} (i : Nat) (hi : i < s.length) (h : s.getD i 0 ≠ (i : Int) + 2) : seqB s = false := by
 cases hb : seqB s
 ·rfl
 ·unfold seqB at hb
  rw [List.all_eq_true] at hb
  exact absurd (beq_iff_eq.1 (hb i (List.mem_range.2 hi))) h
def rightB (s : List Int) (next : Int) : Bool := ((s.length : Int) == wrap64 (next - 2)) && seqB s
theorem rd_T109_nat (xs : List S109) (k : Nat) (hk : k < xs.length) : rd_T109 xs (k : Int) = xs[k] := by
 simp [rd_T109, List.getD_eq_getElem?_getD, List.getElem?_eq_getElem hk]
theorem impl_PagesRight_calls (AP : Option Addr) (cP : Nat) (pages : List ByteArray) (AL : Option Addr) (cL : Nat) (late : List S189) (m0 m1 m2 : Int) (AF : Option Addr) (cF : Nat) (frees : List S109) (pg : List Int) (ok : Bool) (w : World) (hP : Kd.C Kd.string w AP pages.length pages) (hcP : pages.length ≤ cP) (hL : Kd.C k189 w AL late.length late) (hcL : late.length ≤ cL) (hF : Kd.C k109 w AF frees.length frees) (hcF : frees.length ≤ cF) (hpl : pg.length ≤ 100000) (hfl : (flatF frees).length ≤ 1100000) (hnf : frees.length ≤ 1048576) (hpo : impl_PagesOf.f pages late m1 = some (pg, ok)) :
  Calls Try.prog 57 #[.agg #[.slice AP pages.length cP, .slice AL late.length cL], .agg #[.int .i64 m0, .int .i64 m1, .int .i64 m2, .slice AF frees.length cF]] w fun e w' => e = .returned (.bool (ok && rightB (srt (pg ++ flatF frees)) m2)) ∧ Below w.heap.size w w' := by
 obtain ⟨r, hr⟩ : ∃ r, (ok && rightB (srt (pg ++ flatF frees)) m2) = r := ⟨_, rfl⟩
 rw [hr]
 have HR := Aside0.mk hr
 clear hr
 have HP := Aside0.mk hP
 have HL := Aside0.mk hL
 have HF := Aside0.mk hF
 have HN := Aside0.mk (And.intro hpl (And.intro hfl hnf))
 have HPO := Aside0.mk hpo
 clear hP hL hF hpl hfl hnf hpo
 have hbe := Aside0.mk (below_alloc (below_alloc (Below.refl w.heap.size w) (.cells #[.slice AP pages.length cP, .slice AL late.length cL] 41)) (.cells #[.int .i64 m0, .int .i64 m1, .int .i64 m2, .slice AF frees.length cF] 44))
 go_enter Try.func57, Try.ntmps57
 go_wp2_with fail
 ((with_reducible refine (impl_PagesOf.calls AP cP pages AL cL late m1 pg ok _ (Kd.C_below HP.out hbe.out) hcP (Kd.C_below HL.out hbe.out) hcL HPO.out).mono ?_); rintro e w1 ⟨v0, rfl, ho, hb⟩)
 have HB := Aside0.mk (below_step hbe.out hb)
 have BM : Aside0 (w1.heap[w.heap.size + 1]? = some (.cells #[.int .i64 m0, .int .i64 m1, .int .i64 m2, .slice AF frees.length cF] 44 (0, 0))) := ⟨by have := blk_below (blk_new (w.alloc (.cells #[.slice AP pages.length cP, .slice AL late.length cL] 41)) (.cells #[.int .i64 m0, .int .i64 m1, .int .i64 m2, .slice AF frees.length cF] 44)) hb; rwa [show (w.alloc (.cells #[.slice AP pages.length cP, .slice AL late.length cL] 41)).heap.size = w.heap.size + 1 from by simp] at this⟩
 obtain ⟨B, d, rfl⟩ := Kd.R_slice ho
 have RP := Aside0.mk (Kd.R_lower ho hbe.out.size)
 clear ho hb hbe HP HL HPO
 cases ok with
 | false =>
  go_wp2
  go_ret
  exact ⟨by rw [← HR.out]; rfl, HB.out⟩
 | true =>
  have hm2 : w1.cell? ⟨w.heap.size + 1, 2, none⟩ = some (.int .i64 m2) := (blk_cell BM.out 2).trans rfl
  have hm3 : w1.cell? ⟨w.heap.size + 1, 3, none⟩ = some (.slice AF frees.length cF) := (blk_cell BM.out 3).trans rfl
  go_wp2
  go_loopg [5, 23] frees.length (fun gg s5 si wr => ∃ (i : Nat) (B : Option Addr) (d : Nat), i ≤ frees.length ∧ frees.length - i ≤ gg ∧ s5 = .slice B (catF pg frees i).length d ∧ si = .int .i64 i ∧ Aside0 (Kd.R (Kd.int .i64) 3 wr w.heap.size (fun _ => True) (.slice B (catF pg frees i).length d) (catF pg frees i)) ∧ Aside0 (Below w.heap.size w wr) ∧ Aside0 (wr.heap[w.heap.size + 1]? = some (.cells #[.int .i64 m0, .int .i64 m1, .int .i64 m2, .slice AF frees.length cF] 44 (0, 0))))
  case atStart => exact ⟨0, B, d, Nat.zero_le _, by omega, by rw [catF_zero], rfl, ⟨by rw [catF_zero]; exact RP.out⟩, HB, BM⟩
  case round =>
   clear RP HB BM hm2 hm3
   obtain ⟨i, B, d, hi, hg, rfl, rfl, RP, HB, BM⟩ := hrel
   have hm2 : wr.cell? ⟨w.heap.size + 1, 2, none⟩ = some (.int .i64 m2) := (blk_cell BM.out 2).trans rfl
   have hm3 : wr.cell? ⟨w.heap.size + 1, 3, none⟩ = some (.slice AF frees.length cF) := (blk_cell BM.out 3).trans rfl
   by_cases hlt : i < frees.length
   ·have hltz : (i : Int) < (frees.length : Int) := by omega
    obtain ⟨ad, A1, c1, rfl, hc0, hc1, hl1, hC1⟩ := at_T109 (Kd.C_below HF.out HB.out) (i : Int) (by omega) hltz
    rw [rd_T109_nat _ _ hlt] at hc0 hc1 hl1 hC1
    rw [Int.toNat_natCast] at hc0 hc1
    have hfs := catF_succ pg frees i hlt
    have hle := flatF_le1 frees i hlt
    obtain ⟨x, hx⟩ : ∃ x, frees[i] = x := ⟨_, rfl⟩
    rw [hx] at hc0 hc1 hl1 hC1 hfs hle
    obtain ⟨f0, f1⟩ := x
    simp only at hc0 hc1 hl1 hC1 hfs hle
    have HC1 := Aside0.mk hC1
    have HLE := Aside0.mk hle
    obtain ⟨fs, hfq⟩ : ∃ z, catF pg frees i = z := ⟨_, rfl⟩
    obtain ⟨fs2, hfs2⟩ : ∃ z, z = fs ++ f1 := ⟨_, rfl⟩
    have HF2 := Aside0.mk hfs2
    rw [hfq, ← hfs2] at hfs
    rw [hfq] at RP ⊢
    have hfn : fs.length + f1.length ≤ 1200000 := by rw [← hfq, catF_len]; have := HN.out; omega
    have HFN := Aside0.mk hfn
    have HFS := Aside0.mk hfs
    have hw : wrap64 ((i : Int) + 1) = ((i + 1 : Nat) : Int) := by have := HN.out; unfold wrap64; omega
    have HW := Aside0.mk hw
    clear hx hC1 hle hfs hfq hfs2 hfn hw hl1
    go_wp2_with (((with_reducible refine gate_builtin (b := .append) (xs := #[.tmp 27, .tmp 29]) rfl ?_); at_builtin; refine Kd.R_append_rows (Kd.int .i64) (w0 := w) (Rr := Kd.K (Kd.int .i64) (wr.alloc (.cells #[.int .i64 f0, .slice A1 f1.length c1] 109))) w.heap.size rfl (.tmp 27) (.tmp 29) 30 3 (.int .i64 0) 8 rfl Try.underlying30 info3d rfl (by decide) (by decide) (.slice B fs.length d) fs f1 A1 f1.length c1 (fun _ => True) (fun _ => False) rfl rfl (Kd.R_below RP.out (below_alloc (Below.refl wr.heap.size wr) (.cells #[.int .i64 f0, .slice A1 f1.length c1] 109))) (Kd.C_below HC1.out (below_alloc (Below.refl wr.heap.size wr) (.cells #[.int .i64 f0, .slice A1 f1.length c1] 109))) (fun _ _ hk => hk) (fun _ hk => hk.elim) (fun _ _ => trivial) (HB.out.trans (Below.mono (below_alloc (Below.refl wr.heap.size wr) (.cells #[.int .i64 f0, .slice A1 f1.length c1] 109)) HB.out.size)) (Nat.le_trans HB.out.size (below_alloc (Below.refl wr.heap.size wr) (.cells #[.int .i64 f0, .slice A1 f1.length c1] 109)).size) (by have := HFN.out; omega) ?_; intro v1 w2 hR hB hgr _; rw [← HF2.out] at hR; have R1 := Aside0.mk hR; have B1 := Aside0.mk hB; have M1 := Aside0.mk (blk_grown (blk_below BM.out (below_alloc (Below.refl wr.heap.size wr) (.cells #[.int .i64 f0, .slice A1 f1.length c1] 109))) hgr (Kd.R_ne (Kd.R_below RP.out (below_alloc (Below.refl wr.heap.size wr) (.cells #[.int .i64 f0, .slice A1 f1.length c1] 109))) (blk_below BM.out (below_alloc (Below.refl wr.heap.size wr) (.cells #[.int .i64 f0, .slice A1 f1.length c1] 109))) (by decide))); obtain ⟨Ao, co, eo⟩ := Kd.R_slice hR; subst eo; clear hR hB hgr))
    go_roundg (frees.length - (i + 1))
    case measure => omega
    case rel => exact ⟨i + 1, Ao, co, by omega, by omega, by rw [HFS.out], by first | rfl | exact congrArg (Value.int .i64) HW.out, ⟨by rw [HFS.out]; exact R1.out⟩, B1, M1⟩
   ·obtain rfl : i = frees.length := by omega
    rw [catF_all] at RP ⊢
    have hltz : ¬ ((frees.length : Nat) : Int) < (frees.length : Int) := by omega
    obtain ⟨fs, hfq⟩ : ∃ z, pg ++ flatF frees = z := ⟨_, rfl⟩
    have hfn : fs.length ≤ 1200000 := by rw [← hfq, List.length_append]; have := HN.out; omega
    have HFN := Aside0.mk hfn
    rw [hfq] at RP ⊢
    have HFQ := Aside0.mk hfq
    clear hfn hi hfq
    go_wp2_with fail
    ((with_reducible refine (sort_own RP.out (by have := HFN.out; omega)).mono ?_); rintro e w2 ⟨rfl, ho, hgr⟩)
    replace BM := Aside0.mk (blk_grown BM.out hgr (Kd.R_ne RP.out BM.out (by decide)))
    replace HB := Aside0.mk (HB.out.grown hgr HB.out.size (fun k hk => Kd.R_base RP.out k hk))
    obtain ⟨ss, hss⟩ : ∃ z, srt fs = z := ⟨_, rfl⟩
    have hsl : ss.length = fs.length := by rw [← hss, srt_len]
    rw [hss] at ho
    have HSL := Aside0.mk hsl
    have HRR : Aside0 (rightB ss m2 = r) := ⟨by have := HR.out; rwa [HFQ.out, hss, Bool.true_and] at this⟩
    have CS := Aside0.mk (show Kd.C (Kd.int .i64) w2 B ss.length ss from (Kd.R_reads' ho).2.2)
    clear ho hgr RP hss hsl hm2 hm3
    go_wp2
    go_loopg [36] fs.length (fun gg sj wr => ∃ i : Nat, i ≤ fs.length ∧ fs.length - i ≤ gg ∧ sj = .int .i64 i ∧ Aside0 (∀ j, j < i → ss.getD j 0 = (j : Int) + 2) ∧ Aside0 (Kd.C (Kd.int .i64) wr B ss.length ss) ∧ Aside0 (Below w.heap.size w wr) ∧ Aside0 (wr.heap[w.heap.size + 1]? = some (.cells #[.int .i64 m0, .int .i64 m1, .int .i64 m2, .slice AF frees.length cF] 44 (0, 0))))
    case atStart => exact ⟨0, Nat.zero_le _, by omega, rfl, ⟨fun j hj => absurd hj (Nat.not_lt_zero _)⟩, CS, HB, BM⟩
    case round =>
     clear CS HB BM
     try clear hm2 hm3
     obtain ⟨i, hi, hg, rfl, A1, CS, HB, BM⟩ := hrel
     have hm2 : wr.cell? ⟨w.heap.size + 1, 2, none⟩ = some (.int .i64 m2) := (blk_cell BM.out 2).trans rfl
     have hm3 : wr.cell? ⟨w.heap.size + 1, 3, none⟩ = some (.slice AF frees.length cF) := (blk_cell BM.out 3).trans rfl
     by_cases hlt : i < fs.length
     ·have hltz : (i : Int) < (fs.length : Int) := by omega
      have hib : (i : Int) ≤ 1200000 := by have := HFN.out; omega
      obtain ⟨ad, rfl, hc⟩ := Kd.at_int CS.out (i : Int) (by omega) (by have := HSL.out; omega)
      rw [Int.toNat_natCast] at hc
      obtain ⟨x, hx⟩ : ∃ x, rd ss (i : Int) = x := ⟨_, rfl⟩
      rw [hx] at hc
      have HX : Aside0 (ss.getD i 0 = x) := ⟨hx⟩
      clear hx
      by_cases he : x = (i : Int) + 2
      ·subst he
       go_wp2
       have HW := Aside0.mk (show wrap64 ((i : Int) + 1) = ((i + 1 : Nat) : Int) by unfold wrap64; omega)
       go_roundg (fs.length - (i + 1))
       case measure => omega
       case rel => exact ⟨i + 1, by omega, by omega, by first | rfl | exact congrArg (Value.int .i64) HW.out, ⟨fun j hj => by
        by_cases e : j = i
        ·subst e; exact HX.out
        ·exact A1.out j (by omega)⟩, CS, HB, BM⟩
      ·have hb1 : (x != (i : Int) + 2) = true := by simpa using he
       have hb2 : (x == (i : Int) + 2) = false := by simpa using he
       have HE := Aside0.mk he
       clear he
       go_wp2
       go_ret
       exact ⟨by rw [← HRR.out, show rightB ss m2 = false from by unfold rightB; rw [seqB_false i (by rw [HSL.out]; exact hlt) (by rw [HX.out]; exact HE.out), Bool.and_false]]; rfl, HB.out⟩
     ·obtain rfl : i = fs.length := by omega
      have hltz : ¬ ((fs.length : Nat) : Int) < (fs.length : Int) := by omega
      have HSQ : Aside0 (seqB ss = true) := ⟨seqB_true fun j hj => A1.out j (by rw [← HSL.out]; exact hj)⟩
      go_wp2
      go_ret
      exact ⟨by
       rw [← HRR.out, show rightB ss m2 = ((fs.length : Int) == wrap64 (m2 - 2)) from by unfold rightB; rw [HSL.out, HSQ.out, Bool.and_true]]
       rfl, HB.out⟩
theorem spec_PagesRight_calls (AP : Option Addr) (cP : Nat) (pages : List ByteArray) (AL : Option Addr) (cL : Nat) (late : List S189) (m0 m1 m2 : Int) (AF : Option Addr) (cF : Nat) (frees : List S109) (pg : List Int) (ok : Bool) (w : World) (hP : Kd.C Kd.string w AP pages.length pages) (hcP : pages.length ≤ cP) (hL : Kd.C k189 w AL late.length late) (hcL : late.length ≤ cL) (hF : Kd.C k109 w AF frees.length frees) (hcF : frees.length ≤ cF) (hpl : pg.length ≤ 100000) (hfl : (flatF frees).length ≤ 1100000) (hnf : frees.length ≤ 1048576) (hpo : spec_PagesOf.f pages late m1 = some (pg, ok)) :
  Calls Try.prog 55 #[.agg #[.slice AP pages.length cP, .slice AL late.length cL], .agg #[.int .i64 m0, .int .i64 m1, .int .i64 m2, .slice AF frees.length cF]] w fun e w' => e = .returned (.bool (ok && rightB (srt (pg ++ flatF frees)) m2)) ∧ Below w.heap.size w w' := by
 obtain ⟨r, hr⟩ : ∃ r, (ok && rightB (srt (pg ++ flatF frees)) m2) = r := ⟨_, rfl⟩
 rw [hr]
 have HR := Aside0.mk hr
 clear hr
 have HP := Aside0.mk hP
 have HL := Aside0.mk hL
 have HF := Aside0.mk hF
 have HN := Aside0.mk (And.intro hpl (And.intro hfl hnf))
 have HPO := Aside0.mk hpo
 clear hP hL hF hpl hfl hnf hpo
 have hbe := Aside0.mk (below_alloc (below_alloc (Below.refl w.heap.size w) (.cells #[.slice AP pages.length cP, .slice AL late.length cL] 41)) (.cells #[.int .i64 m0, .int .i64 m1, .int .i64 m2, .slice AF frees.length cF] 44))
 go_enter Try.func55, Try.ntmps55
 go_wp2_with fail
 ((with_reducible refine (spec_PagesOf.calls AP cP pages AL cL late m1 pg ok _ (Kd.C_below HP.out hbe.out) hcP (Kd.C_below HL.out hbe.out) hcL HPO.out).mono ?_); rintro e w1 ⟨v0, rfl, ho, hb⟩)
 have HB := Aside0.mk (below_step hbe.out hb)
 have BM : Aside0 (w1.heap[w.heap.size + 1]? = some (.cells #[.int .i64 m0, .int .i64 m1, .int .i64 m2, .slice AF frees.length cF] 44 (0, 0))) := ⟨by have := blk_below (blk_new (w.alloc (.cells #[.slice AP pages.length cP, .slice AL late.length cL] 41)) (.cells #[.int .i64 m0, .int .i64 m1, .int .i64 m2, .slice AF frees.length cF] 44)) hb; rwa [show (w.alloc (.cells #[.slice AP pages.length cP, .slice AL late.length cL] 41)).heap.size = w.heap.size + 1 from by simp] at this⟩
 obtain ⟨B, d, rfl⟩ := Kd.R_slice ho
 have RP := Aside0.mk (Kd.R_lower ho hbe.out.size)
 clear ho hb hbe HP HL HPO
 cases ok with
 | false =>
  go_wp2
  go_ret
  exact ⟨by rw [← HR.out]; rfl, HB.out⟩
 | true =>
  have hm2 : w1.cell? ⟨w.heap.size + 1, 2, none⟩ = some (.int .i64 m2) := (blk_cell BM.out 2).trans rfl
  have hm3 : w1.cell? ⟨w.heap.size + 1, 3, none⟩ = some (.slice AF frees.length cF) := (blk_cell BM.out 3).trans rfl
  go_wp2
  go_loopg [5, 7] frees.length (fun gg s5 si wr => ∃ (i : Nat) (B : Option Addr) (d : Nat), i ≤ frees.length ∧ frees.length - i ≤ gg ∧ s5 = .slice B (catF pg frees i).length d ∧ si = .int .i64 i ∧ Aside0 (Kd.R (Kd.int .i64) 3 wr w.heap.size (fun _ => True) (.slice B (catF pg frees i).length d) (catF pg frees i)) ∧ Aside0 (Below w.heap.size w wr) ∧ Aside0 (wr.heap[w.heap.size + 1]? = some (.cells #[.int .i64 m0, .int .i64 m1, .int .i64 m2, .slice AF frees.length cF] 44 (0, 0))))
  case atStart => exact ⟨0, B, d, Nat.zero_le _, by omega, by rw [catF_zero], rfl, ⟨by rw [catF_zero]; exact RP.out⟩, HB, BM⟩
  case round =>
   clear RP HB BM hm2 hm3
   obtain ⟨i, B, d, hi, hg, rfl, rfl, RP, HB, BM⟩ := hrel
   have hm2 : wr.cell? ⟨w.heap.size + 1, 2, none⟩ = some (.int .i64 m2) := (blk_cell BM.out 2).trans rfl
   have hm3 : wr.cell? ⟨w.heap.size + 1, 3, none⟩ = some (.slice AF frees.length cF) := (blk_cell BM.out 3).trans rfl
   by_cases hlt : i < frees.length
   ·have hltz : (i : Int) < (frees.length : Int) := by omega
    obtain ⟨ad, A1, c1, rfl, hc0, hc1, hl1, hC1⟩ := at_T109 (Kd.C_below HF.out HB.out) (i : Int) (by omega) hltz
    rw [rd_T109_nat _ _ hlt] at hc0 hc1 hl1 hC1
    rw [Int.toNat_natCast] at hc0 hc1
    have hfs := catF_succ pg frees i hlt
    have hle := flatF_le1 frees i hlt
    obtain ⟨x, hx⟩ : ∃ x, frees[i] = x := ⟨_, rfl⟩
    rw [hx] at hc0 hc1 hl1 hC1 hfs hle
    obtain ⟨f0, f1⟩ := x
    simp only at hc0 hc1 hl1 hC1 hfs hle
    have HC1 := Aside0.mk hC1
    have HLE := Aside0.mk hle
    obtain ⟨fs, hfq⟩ : ∃ z, catF pg frees i = z := ⟨_, rfl⟩
    obtain ⟨fs2, hfs2⟩ : ∃ z, z = fs ++ f1 := ⟨_, rfl⟩
    have HF2 := Aside0.mk hfs2
    rw [hfq, ← hfs2] at hfs
    rw [hfq] at RP ⊢
    have hfn : fs.length + f1.length ≤ 1200000 := by rw [← hfq, catF_len]; have := HN.out; omega
    have HFN := Aside0.mk hfn
    have HFS := Aside0.mk hfs
    have hw : wrap64 ((i : Int) + 1) = ((i + 1 : Nat) : Int) := by have := HN.out; unfold wrap64; omega
    have HW := Aside0.mk hw
    clear hx hC1 hle hfs hfq hfs2 hfn hw hl1
    go_wp2_with (((with_reducible refine gate_builtin (b := .append) (xs := #[.tmp 25, .tmp 31]) rfl ?_); at_builtin; refine Kd.R_append_rows (Kd.int .i64) (w0 := w) (Rr := Kd.K (Kd.int .i64) (wr)) w.heap.size rfl (.tmp 25) (.tmp 31) 30 3 (.int .i64 0) 8 rfl Try.underlying30 info3d rfl (by decide) (by decide) (.slice B fs.length d) fs f1 A1 f1.length c1 (fun _ => True) (fun _ => False) rfl rfl (Kd.R_below RP.out (Below.refl wr.heap.size wr)) (Kd.C_below HC1.out (Below.refl wr.heap.size wr)) (fun _ _ hk => hk) (fun _ hk => hk.elim) (fun _ _ => trivial) (HB.out.trans (Below.mono (Below.refl wr.heap.size wr) HB.out.size)) (Nat.le_trans HB.out.size (Below.refl wr.heap.size wr).size) (by have := HFN.out; omega) ?_; intro v1 w2 hR hB hgr _; rw [← HF2.out] at hR; have R1 := Aside0.mk hR; have B1 := Aside0.mk hB; have M1 := Aside0.mk (blk_grown (blk_below BM.out (Below.refl wr.heap.size wr)) hgr (Kd.R_ne (Kd.R_below RP.out (Below.refl wr.heap.size wr)) (blk_below BM.out (Below.refl wr.heap.size wr)) (by decide))); obtain ⟨Ao, co, eo⟩ := Kd.R_slice hR; subst eo; clear hR hB hgr))
    go_roundg (frees.length - (i + 1))
    case measure => omega
    case rel => exact ⟨i + 1, Ao, co, by omega, by omega, by rw [HFS.out], by first | rfl | exact congrArg (Value.int .i64) HW.out, ⟨by rw [HFS.out]; exact R1.out⟩, B1, M1⟩
   ·obtain rfl : i = frees.length := by omega
    rw [catF_all] at RP ⊢
    have hltz : ¬ ((frees.length : Nat) : Int) < (frees.length : Int) := by omega
    obtain ⟨fs, hfq⟩ : ∃ z, pg ++ flatF frees = z := ⟨_, rfl⟩
    have hfn : fs.length ≤ 1200000 := by rw [← hfq, List.length_append]; have := HN.out; omega
    have HFN := Aside0.mk hfn
    rw [hfq] at RP ⊢
    have HFQ := Aside0.mk hfq
    clear hfn hi hfq
    go_wp2_with fail
    ((with_reducible refine (l07Sorted_calls B d fs _ (R_seen RP.out).2 (by have := HFN.out; omega)).mono ?_); rintro e w2 ⟨B2, d2, rfl, ho, hb⟩)
    replace BM := Aside0.mk (blk_below BM.out hb)
    replace HB := Aside0.mk (below_step HB.out hb)
    obtain ⟨ss, hss⟩ : ∃ z, srt fs = z := ⟨_, rfl⟩
    have hsl : ss.length = fs.length := by rw [← hss, srt_len]
    rw [hss] at ho
    have HSL := Aside0.mk hsl
    have HRR : Aside0 (rightB ss m2 = r) := ⟨by have := HR.out; rwa [HFQ.out, hss, Bool.true_and] at this⟩
    have CS := Aside0.mk (show Kd.C (Kd.int .i64) w2 B2 ss.length ss from (Kd.R_reads' ho).2.2)
    clear ho hb RP hss hsl hm2 hm3
    have hm2 : w2.cell? ⟨w.heap.size + 1, 2, none⟩ = some (.int .i64 m2) := (blk_cell BM.out 2).trans rfl
    have hm3 : w2.cell? ⟨w.heap.size + 1, 3, none⟩ = some (.slice AF frees.length cF) := (blk_cell BM.out 3).trans rfl
    obtain ⟨mm, hmm⟩ : ∃ z, wrap64 (m2 - 2) = z := ⟨_, rfl⟩
    have hm8 : IntKind.i64.wrap (m2 - 2) = mm := (i64_w _).trans hmm
    have HMM := Aside0.mk hmm
    by_cases hlen : (fs.length : Int) = mm
    ·have hl1 : ((fs.length : Int) != mm) = false := by simpa using hlen
     have hl2 : ((fs.length : Int) == mm) = true := by simpa using hlen
     have HLEN := Aside0.mk hlen
     clear hlen
     go_wp2
     clear hmm hm8
     go_loopg [8] fs.length (fun gg sj wr => ∃ i : Nat, i ≤ fs.length ∧ fs.length - i ≤ gg ∧ sj = .int .i64 i ∧ Aside0 (∀ j, j < i → ss.getD j 0 = (j : Int) + 2) ∧ Aside0 (Kd.C (Kd.int .i64) wr B2 ss.length ss) ∧ Aside0 (Below w.heap.size w wr) ∧ Aside0 (wr.heap[w.heap.size + 1]? = some (.cells #[.int .i64 m0, .int .i64 m1, .int .i64 m2, .slice AF frees.length cF] 44 (0, 0))))
     case atStart => exact ⟨0, Nat.zero_le _, by omega, rfl, ⟨fun j hj => absurd hj (Nat.not_lt_zero _)⟩, CS, HB, BM⟩
     case round =>
      clear CS HB BM
      try clear hm2 hm3
      obtain ⟨i, hi, hg, rfl, A1, CS, HB, BM⟩ := hrel
      have hm2 : wr.cell? ⟨w.heap.size + 1, 2, none⟩ = some (.int .i64 m2) := (blk_cell BM.out 2).trans rfl
      have hm3 : wr.cell? ⟨w.heap.size + 1, 3, none⟩ = some (.slice AF frees.length cF) := (blk_cell BM.out 3).trans rfl
      by_cases hlt : i < fs.length
      ·have hltz : (i : Int) < (fs.length : Int) := by omega
       have hib : (i : Int) ≤ 1200000 := by have := HFN.out; omega
       obtain ⟨ad, rfl, hc⟩ := Kd.at_int CS.out (i : Int) (by omega) (by have := HSL.out; omega)
       rw [Int.toNat_natCast] at hc
       obtain ⟨x, hx⟩ : ∃ x, rd ss (i : Int) = x := ⟨_, rfl⟩
       rw [hx] at hc
       have HX : Aside0 (ss.getD i 0 = x) := ⟨hx⟩
       clear hx
       by_cases he : x = (i : Int) + 2
       ·subst he
        go_wp2
        have HW := Aside0.mk (show wrap64 ((i : Int) + 1) = ((i + 1 : Nat) : Int) by unfold wrap64; omega)
        go_roundg (fs.length - (i + 1))
        case measure => omega
        case rel => exact ⟨i + 1, by omega, by omega, by first | rfl | exact congrArg (Value.int .i64) HW.out, ⟨fun j hj => by
         by_cases e : j = i
         ·subst e; exact HX.out
         ·exact A1.out j (by omega)⟩, CS, HB, BM⟩
       ·have hb1 : (x != (i : Int) + 2) = true := by simpa using he
        have hb2 : (x == (i : Int) + 2) = false := by simpa using he
        have HE := Aside0.mk he
        clear he
        go_wp2
        go_ret
        exact ⟨by rw [← HRR.out, show rightB ss m2 = false from by unfold rightB; rw [seqB_false i (by rw [HSL.out]; exact hlt) (by rw [HX.out]; exact HE.out), Bool.and_false]]; rfl, HB.out⟩
      ·obtain rfl : i = fs.length := by omega
       have hltz : ¬ ((fs.length : Nat) : Int) < (fs.length : Int) := by omega
       have HSQ : Aside0 (seqB ss = true) := ⟨seqB_true fun j hj => A1.out j (by rw [← HSL.out]; exact hj)⟩
       go_wp2
       go_ret
       exact ⟨by rw [← HRR.out, show rightB ss m2 = true from by unfold rightB; rw [HSL.out, HMM.out, hl2, HSQ.out]; rfl]; rfl, HB.out⟩
    ·have hl1 : ((fs.length : Int) != mm) = true := by simpa using hlen
     have hl2 : ((fs.length : Int) == mm) = false := by simpa using hlen
     have HLEN := Aside0.mk hlen
     clear hlen
     go_wp2
     go_ret
     exact ⟨by rw [← HRR.out, show rightB ss m2 = false from by unfold rightB; rw [HSL.out, HMM.out, hl2, Bool.false_and]]; rfl, HB.out⟩
end Go.Proofs.Ytapholbdjccapaa.PFnExactTreeOk
