import Derived.Test.YtapholbdjccapaaTF6
set_option maxHeartbeats 64000000
set_option maxRecDepth 100000
set_option linter.unusedVariables false
set_option linter.unusedSimpArgs false
namespace Go.Proofs.Ytapholbdjccapaa.PFnExactTreeOk
open Go.RowKit Go.Proofs.YtapholbdjccapaaW.PrintWords Go.Proofs.YtapholbdjccapaaW.PrintLast Go.Proofs.YtapholbdjccapaaW.PrintMore
attribute [local go_sem] max2_int min2_int max_two min_two max_three min_three max_four min_four
def laws_eqTxn.f (k : Nat) (a0_0 : Int) (a0_1 : Int) (a0_2 : Int) (l0_3 : List (S109)) (l0_4 : List ByteArray) (l0_5 : List (S189)) (a0_6 : Int) (l0_7 : List Int) (l0_8 : List Int) (l0_9 : List Int) (a0_10 : Int) (a1_0 : Int) (a1_1 : Int) (a1_2 : Int) (l1_3 : List (S109)) (l1_4 : List ByteArray) (l1_5 : List (S189)) (a1_6 : Int) (l1_7 : List Int) (l1_8 : List Int) (l1_9 : List Int) (a1_10 : Int) : Option (Bool) := (laws_eqMeta.f k a0_0 a0_1 a0_2 l0_3 a1_0 a1_1 a1_2 l1_3).bind fun t282 => (if t282 = true then ((laws_eqWork.f k l0_4 l0_5 a0_6 l0_7 l0_8 l0_9 l1_4 l1_5 a1_6 l1_7 l1_8 l1_9).bind fun t283 => (if t283 = true then (if a0_10 = a1_10 then (some true) else (none)) else (none))) else (none))
theorem laws_eqTxn.mono : ∀ a0 a1 a2 a3 a4 a5 a6 a7 a8 a9 a10 a11 a12 a13 a14 a15 a16 a17 a18 a19 a20 a21 k, LeO (laws_eqTxn.f k a0 a1 a2 a3 a4 a5 a6 a7 a8 a9 a10 a11 a12 a13 a14 a15 a16 a17 a18 a19 a20 a21) (laws_eqTxn.f (k + 1) a0 a1 a2 a3 a4 a5 a6 a7 a8 a9 a10 a11 a12 a13 a14 a15 a16 a17 a18 a19 a20 a21) := by
 intro a0 a1 a2 a3 a4 a5 a6 a7 a8 a9 a10 a11 a12 a13 a14 a15 a16 a17 a18 a19 a20 a21 k
 unfold laws_eqTxn.f
 repeat' first
   | (with_reducible exact laws_eqMeta.mono _ _ _ _ _ _ _ _ _)
   | (with_reducible exact laws_eqWork.mono _ _ _ _ _ _ _ _ _ _ _ _ _)
   | (with_reducible exact LeO.refl _)
   | (with_reducible exact LeO.none _)
   | (with_reducible refine LeO.ite ?_ ?_)
   | (with_reducible refine LeO.bind ?_ (fun _ => ?_))
   | exact laws_eqMeta.mono _ _ _ _ _ _ _ _ _
   | exact laws_eqWork.mono _ _ _ _ _ _ _ _ _ _ _ _ _
theorem laws_eqTxn.calls (k : Nat) (a0_0 : Int) (a0_1 : Int) (a0_2 : Int) (A0_3 : Option Addr) (c0_3 : Nat) (l0_3 : List (S109)) (A0_4 : Option Addr) (c0_4 : Nat) (l0_4 : List ByteArray) (A0_5 : Option Addr) (c0_5 : Nat) (l0_5 : List (S189)) (a0_6 : Int) (A0_7 : Option Addr) (c0_7 : Nat) (l0_7 : List Int) (A0_8 : Option Addr) (c0_8 : Nat) (l0_8 : List Int) (A0_9 : Option Addr) (c0_9 : Nat) (l0_9 : List Int) (a0_10 : Int) (a1_0 : Int) (a1_1 : Int) (a1_2 : Int) (A1_3 : Option Addr) (c1_3 : Nat) (l1_3 : List (S109)) (A1_4 : Option Addr) (c1_4 : Nat) (l1_4 : List ByteArray) (A1_5 : Option Addr) (c1_5 : Nat) (l1_5 : List (S189)) (a1_6 : Int) (A1_7 : Option Addr) (c1_7 : Nat) (l1_7 : List Int) (A1_8 : Option Addr) (c1_8 : Nat) (l1_8 : List Int) (A1_9 : Option Addr) (c1_9 : Nat) (l1_9 : List Int) (a1_10 : Int) (r : Bool) (w : World) (hr0_3 : Kd.C k109 w A0_3 l0_3.length l0_3) (hc0_3 : l0_3.length ≤ c0_3) (hr0_4 : Kd.C Kd.string w A0_4 l0_4.length l0_4) (hc0_4 : l0_4.length ≤ c0_4) (hr0_5 : Kd.C k189 w A0_5 l0_5.length l0_5) (hc0_5 : l0_5.length ≤ c0_5) (hr0_7 : Kd.C (Kd.int .i64) w A0_7 l0_7.length l0_7) (hc0_7 : l0_7.length ≤ c0_7) (hr0_8 : Kd.C (Kd.int .i64) w A0_8 l0_8.length l0_8) (hc0_8 : l0_8.length ≤ c0_8) (hr0_9 : Kd.C (Kd.int .i64) w A0_9 l0_9.length l0_9) (hc0_9 : l0_9.length ≤ c0_9) (hr1_3 : Kd.C k109 w A1_3 l1_3.length l1_3) (hc1_3 : l1_3.length ≤ c1_3) (hr1_4 : Kd.C Kd.string w A1_4 l1_4.length l1_4) (hc1_4 : l1_4.length ≤ c1_4) (hr1_5 : Kd.C k189 w A1_5 l1_5.length l1_5) (hc1_5 : l1_5.length ≤ c1_5) (hr1_7 : Kd.C (Kd.int .i64) w A1_7 l1_7.length l1_7) (hc1_7 : l1_7.length ≤ c1_7) (hr1_8 : Kd.C (Kd.int .i64) w A1_8 l1_8.length l1_8) (hc1_8 : l1_8.length ≤ c1_8) (hr1_9 : Kd.C (Kd.int .i64) w A1_9 l1_9.length l1_9) (hc1_9 : l1_9.length ≤ c1_9) (h : laws_eqTxn.f k a0_0 a0_1 a0_2 l0_3 l0_4 l0_5 a0_6 l0_7 l0_8 l0_9 a0_10 a1_0 a1_1 a1_2 l1_3 l1_4 l1_5 a1_6 l1_7 l1_8 l1_9 a1_10 = some r) :
  Calls Try.prog 64 #[.agg #[.int .i64 a0_0, .int .i64 a0_1, .int .i64 a0_2, .slice A0_3 l0_3.length c0_3, .slice A0_4 l0_4.length c0_4, .slice A0_5 l0_5.length c0_5, .int .i64 a0_6, .slice A0_7 l0_7.length c0_7, .slice A0_8 l0_8.length c0_8, .slice A0_9 l0_9.length c0_9, .int .i64 a0_10], .agg #[.int .i64 a1_0, .int .i64 a1_1, .int .i64 a1_2, .slice A1_3 l1_3.length c1_3, .slice A1_4 l1_4.length c1_4, .slice A1_5 l1_5.length c1_5, .int .i64 a1_6, .slice A1_7 l1_7.length c1_7, .slice A1_8 l1_8.length c1_8, .slice A1_9 l1_9.length c1_9, .int .i64 a1_10]] w fun e w' => e = .returned (.bool r) ∧ Below w.heap.size w w' := by
 have hu49 := Try.underlying49
 have hu44 := Try.underlying44
 have hu47 := Try.underlying47
 have HR0_3 := Aside0.mk hr0_3
 have HC0_3 := Aside0.mk hc0_3
 clear hr0_3 hc0_3
 have HR0_4 := Aside0.mk hr0_4
 have HC0_4 := Aside0.mk hc0_4
 clear hr0_4 hc0_4
 have HR0_5 := Aside0.mk hr0_5
 have HC0_5 := Aside0.mk hc0_5
 clear hr0_5 hc0_5
 have HR0_7 := Aside0.mk hr0_7
 have HC0_7 := Aside0.mk hc0_7
 clear hr0_7 hc0_7
 have HR0_8 := Aside0.mk hr0_8
 have HC0_8 := Aside0.mk hc0_8
 clear hr0_8 hc0_8
 have HR0_9 := Aside0.mk hr0_9
 have HC0_9 := Aside0.mk hc0_9
 clear hr0_9 hc0_9
 have HR1_3 := Aside0.mk hr1_3
 have HC1_3 := Aside0.mk hc1_3
 clear hr1_3 hc1_3
 have HR1_4 := Aside0.mk hr1_4
 have HC1_4 := Aside0.mk hc1_4
 clear hr1_4 hc1_4
 have HR1_5 := Aside0.mk hr1_5
 have HC1_5 := Aside0.mk hc1_5
 clear hr1_5 hc1_5
 have HR1_7 := Aside0.mk hr1_7
 have HC1_7 := Aside0.mk hc1_7
 clear hr1_7 hc1_7
 have HR1_8 := Aside0.mk hr1_8
 have HC1_8 := Aside0.mk hc1_8
 clear hr1_8 hc1_8
 have HR1_9 := Aside0.mk hr1_9
 have HC1_9 := Aside0.mk hc1_9
 clear hr1_9 hc1_9
 have HB := Aside0.mk (Below.refl w.heap.size w)
 have H : ((laws_eqMeta.f k a0_0 a0_1 a0_2 l0_3 a1_0 a1_1 a1_2 l1_3).bind fun t282 => (if t282 = true then ((laws_eqWork.f k l0_4 l0_5 a0_6 l0_7 l0_8 l0_9 l1_4 l1_5 a1_6 l1_7 l1_8 l1_9).bind fun t283 => (if t283 = true then (if a0_10 = a1_10 then (some true) else (none)) else (none))) else (none))) = some r := h
 clear h
 replace H := Option.bind_eq_some_iff.mp H
 obtain ⟨t282, A30, H⟩ := H
 replace H : (if t282 = true then ((laws_eqWork.f k l0_4 l0_5 a0_6 l0_7 l0_8 l0_9 l1_4 l1_5 a1_6 l1_7 l1_8 l1_9).bind fun t283 => (if t283 = true then (if a0_10 = a1_10 then (some true) else (none)) else (none))) else (none)) = some r := H
 have A3 := Aside0.mk A30
 clear A30
 by_cases c4 : t282 = true
 ·subst c4
  have H1 : ((laws_eqWork.f k l0_4 l0_5 a0_6 l0_7 l0_8 l0_9 l1_4 l1_5 a1_6 l1_7 l1_8 l1_9).bind fun t283 => (if t283 = true then (if a0_10 = a1_10 then (some true) else (none)) else (none))) = some r := by rw [if_pos rfl] at H; exact H
  clear H
  have H := H1
  clear H1
  replace H := Option.bind_eq_some_iff.mp H
  obtain ⟨t283, A50, H⟩ := H
  replace H : (if t283 = true then (if a0_10 = a1_10 then (some true) else (none)) else (none)) = some r := H
  have A5 := Aside0.mk A50
  clear A50
  by_cases c6 : t283 = true
  ·subst c6
   have H1 : (if a0_10 = a1_10 then (some true) else (none)) = some r := by rw [if_pos rfl] at H; exact H
   clear H
   have H := H1
   clear H1
   by_cases c7 : a0_10 = a1_10
   ·rw [if_pos c7] at H
    have c7b0 : (a0_10 == a1_10) = true := beq_iff_eq.mpr c7
    have c7b1 : (a0_10 != a1_10) = false := bne_eq_false_iff_eq.mpr c7
    clear c7
    obtain rfl := Option.some.inj H
    go_enter Try.func64, Try.ntmps64
    go_wp2_with (first | ((with_reducible refine gate_dst (N := 2) rfl ?_); refine box_event ?hg (N := 2) ?hd (cs := #[.int .i64 a0_0, .int .i64 a0_1, .int .i64 a0_2, .slice A0_3 l0_3.length c0_3, .slice A0_4 l0_4.length c0_4, .slice A0_5 l0_5.length c0_5, .int .i64 a0_6, .slice A0_7 l0_7.length c0_7, .slice A0_8 l0_8.length c0_8, .slice A0_9 l0_9.length c0_9, .int .i64 a0_10]) (t := 49) ?hr ?_; (case hd => rfl); (case hg => rfl); (case hr => first | (go_simp; done) | (go_simp; rfl)); intro gb280 hg w8 hbox hb; have n0_ := Aside0.mk (below_step (by repeat (first | (with_reducible first | exact HB.out | apply below_alloc | apply pw_below_drewN | apply below_drew1) | exact HB.out)) hb); have n1_ := Aside0.mk (hbox); have n2_ := Aside0.mk ((by rw [hg]; exact (below_size (by repeat (first | (with_reducible first | exact HB.out | apply below_alloc | apply pw_below_drewN | apply below_drew1) | exact HB.out))) : w.heap.size ≤ gb280)); have n3_ := Aside0.mk ((by rw [hg]; exact (below_size (by repeat (first | (with_reducible first | exact HB.out | apply below_alloc | apply pw_below_drewN | apply below_drew1) | exact HB.out))) : w.heap.size ≤ gb280)); clear HB; have HB := n0_; have BK280 := n1_; have GW280 := n2_; have GE280 := n3_; clear n0_ n1_ n2_ n3_; clear hb hbox hg) | ((with_reducible refine gate_dst (N := 3) rfl ?_); refine box_event ?hg (N := 3) ?hd (cs := #[.int .i64 a1_0, .int .i64 a1_1, .int .i64 a1_2, .slice A1_3 l1_3.length c1_3, .slice A1_4 l1_4.length c1_4, .slice A1_5 l1_5.length c1_5, .int .i64 a1_6, .slice A1_7 l1_7.length c1_7, .slice A1_8 l1_8.length c1_8, .slice A1_9 l1_9.length c1_9, .int .i64 a1_10]) (t := 49) ?hr ?_; (case hd => rfl); (case hg => rfl); (case hr => first | (go_simp; done) | (go_simp; rfl)); intro gb281 hg w9 hbox hb; have n0_ := Aside0.mk (blk_below (g := gb280) (o := .cells #[.int .i64 a0_0, .int .i64 a0_1, .int .i64 a0_2, .slice A0_3 l0_3.length c0_3, .slice A0_4 l0_4.length c0_4, .slice A0_5 l0_5.length c0_5, .int .i64 a0_6, .slice A0_7 l0_7.length c0_7, .slice A0_8 l0_8.length c0_8, .slice A0_9 l0_9.length c0_9, .int .i64 a0_10] 49 (0, 0)) (by (with_reducible repeat (first | refine blk_drewN ?_ _ | refine blk_drew ?_ | refine blk_alloc ?_ _)); exact BK280.out) hb); have n1_ := Aside0.mk (below_step (by repeat (first | (with_reducible first | exact HB.out | apply below_alloc | apply pw_below_drewN | apply below_drew1 | refine below_set ?_ GE280.out) | exact HB.out)) hb); have n2_ := Aside0.mk (hbox); have n3_ := Aside0.mk ((by rw [hg]; exact (below_size (by repeat (first | (with_reducible first | exact HB.out | apply below_alloc | apply pw_below_drewN | apply below_drew1 | refine below_set ?_ GE280.out) | exact HB.out))) : w.heap.size ≤ gb281)); have n4_ := Aside0.mk ((by rw [hg]; exact (below_size (by repeat (first | (with_reducible first | exact HB.out | apply below_alloc | apply pw_below_drewN | apply below_drew1 | refine below_set ?_ GE280.out) | exact HB.out))) : w.heap.size ≤ gb281)); have n5_ := Aside0.mk ((by rw [hg]; exact Nat.ne_of_lt (blk_lt (g := gb280) (o := .cells #[.int .i64 a0_0, .int .i64 a0_1, .int .i64 a0_2, .slice A0_3 l0_3.length c0_3, .slice A0_4 l0_4.length c0_4, .slice A0_5 l0_5.length c0_5, .int .i64 a0_6, .slice A0_7 l0_7.length c0_7, .slice A0_8 l0_8.length c0_8, .slice A0_9 l0_9.length c0_9, .int .i64 a0_10] 49 (0, 0)) (by (with_reducible repeat (first | refine blk_drewN ?_ _ | refine blk_drew ?_ | refine blk_alloc ?_ _)); exact BK280.out)) : gb280 ≠ gb281)); have n6_ := Aside0.mk ((by rw [hg]; exact Nat.ne_of_gt (blk_lt (g := gb280) (o := .cells #[.int .i64 a0_0, .int .i64 a0_1, .int .i64 a0_2, .slice A0_3 l0_3.length c0_3, .slice A0_4 l0_4.length c0_4, .slice A0_5 l0_5.length c0_5, .int .i64 a0_6, .slice A0_7 l0_7.length c0_7, .slice A0_8 l0_8.length c0_8, .slice A0_9 l0_9.length c0_9, .int .i64 a0_10] 49 (0, 0)) (by (with_reducible repeat (first | refine blk_drewN ?_ _ | refine blk_drew ?_ | refine blk_alloc ?_ _)); exact BK280.out)) : gb281 ≠ gb280)); clear BK280; clear HB; have BK280 := n0_; have HB := n1_; have BK281 := n2_; have GW281 := n3_; have GE281 := n4_; have NB280_281 := n5_; have NB281_280 := n6_; clear n0_ n1_ n2_ n3_ n4_ n5_ n6_; clear hb hbox hg; have hnb10 := NB280_281.out; have hnc10 := NB281_280.out; have hcz11_0 : w9.cell? ⟨gb280, 0, none⟩ = some (.int .i64 a0_0) := (blk_cell BK280.out 0).trans rfl; have hcz11_1 : w9.cell? ⟨gb280, 1, none⟩ = some (.int .i64 a0_1) := (blk_cell BK280.out 1).trans rfl; have hcz11_2 : w9.cell? ⟨gb280, 2, none⟩ = some (.int .i64 a0_2) := (blk_cell BK280.out 2).trans rfl; have hcz11_3 : w9.cell? ⟨gb280, 3, none⟩ = some (.slice A0_3 l0_3.length c0_3) := (blk_cell BK280.out 3).trans rfl; have hcz11_4 : w9.cell? ⟨gb280, 4, none⟩ = some (.slice A0_4 l0_4.length c0_4) := (blk_cell BK280.out 4).trans rfl; have hcz11_5 : w9.cell? ⟨gb280, 5, none⟩ = some (.slice A0_5 l0_5.length c0_5) := (blk_cell BK280.out 5).trans rfl; have hcz11_6 : w9.cell? ⟨gb280, 6, none⟩ = some (.int .i64 a0_6) := (blk_cell BK280.out 6).trans rfl; have hcz11_7 : w9.cell? ⟨gb280, 7, none⟩ = some (.slice A0_7 l0_7.length c0_7) := (blk_cell BK280.out 7).trans rfl; have hcz11_8 : w9.cell? ⟨gb280, 8, none⟩ = some (.slice A0_8 l0_8.length c0_8) := (blk_cell BK280.out 8).trans rfl; have hcz11_9 : w9.cell? ⟨gb280, 9, none⟩ = some (.slice A0_9 l0_9.length c0_9) := (blk_cell BK280.out 9).trans rfl; have hcz11_10 : w9.cell? ⟨gb280, 10, none⟩ = some (.int .i64 a0_10) := (blk_cell BK280.out 10).trans rfl; have hfz11_0 := blk_frozen BK280.out 0; have hfz11_1 := blk_frozen BK280.out 1; have hfz11_2 := blk_frozen BK280.out 2; have hfz11_3 := blk_frozen BK280.out 3; have hfz11_4 := blk_frozen BK280.out 4; have hfz11_5 := blk_frozen BK280.out 5; have hfz11_6 := blk_frozen BK280.out 6; have hfz11_7 := blk_frozen BK280.out 7; have hfz11_8 := blk_frozen BK280.out 8; have hfz11_9 := blk_frozen BK280.out 9; have hfz11_10 := blk_frozen BK280.out 10; have hcz12_0 : w9.cell? ⟨gb281, 0, none⟩ = some (.int .i64 a1_0) := (blk_cell BK281.out 0).trans rfl; have hcz12_1 : w9.cell? ⟨gb281, 1, none⟩ = some (.int .i64 a1_1) := (blk_cell BK281.out 1).trans rfl; have hcz12_2 : w9.cell? ⟨gb281, 2, none⟩ = some (.int .i64 a1_2) := (blk_cell BK281.out 2).trans rfl; have hcz12_3 : w9.cell? ⟨gb281, 3, none⟩ = some (.slice A1_3 l1_3.length c1_3) := (blk_cell BK281.out 3).trans rfl; have hcz12_4 : w9.cell? ⟨gb281, 4, none⟩ = some (.slice A1_4 l1_4.length c1_4) := (blk_cell BK281.out 4).trans rfl; have hcz12_5 : w9.cell? ⟨gb281, 5, none⟩ = some (.slice A1_5 l1_5.length c1_5) := (blk_cell BK281.out 5).trans rfl; have hcz12_6 : w9.cell? ⟨gb281, 6, none⟩ = some (.int .i64 a1_6) := (blk_cell BK281.out 6).trans rfl; have hcz12_7 : w9.cell? ⟨gb281, 7, none⟩ = some (.slice A1_7 l1_7.length c1_7) := (blk_cell BK281.out 7).trans rfl; have hcz12_8 : w9.cell? ⟨gb281, 8, none⟩ = some (.slice A1_8 l1_8.length c1_8) := (blk_cell BK281.out 8).trans rfl; have hcz12_9 : w9.cell? ⟨gb281, 9, none⟩ = some (.slice A1_9 l1_9.length c1_9) := (blk_cell BK281.out 9).trans rfl; have hcz12_10 : w9.cell? ⟨gb281, 10, none⟩ = some (.int .i64 a1_10) := (blk_cell BK281.out 10).trans rfl; have hfz12_0 := blk_frozen BK281.out 0; have hfz12_1 := blk_frozen BK281.out 1; have hfz12_2 := blk_frozen BK281.out 2; have hfz12_3 := blk_frozen BK281.out 3; have hfz12_4 := blk_frozen BK281.out 4; have hfz12_5 := blk_frozen BK281.out 5; have hfz12_6 := blk_frozen BK281.out 6; have hfz12_7 := blk_frozen BK281.out 7; have hfz12_8 := blk_frozen BK281.out 8; have hfz12_9 := blk_frozen BK281.out 9; have hfz12_10 := blk_frozen BK281.out 10) | ((with_reducible refine gate_callee (f := 58) rfl ?_); refine goesL_ (some 9) rfl rfl Try.func58 (by kernel_rfl) rfl #[.agg #[.int .i64 a0_0, .int .i64 a0_1, .int .i64 a0_2, .slice A0_3 l0_3.length c0_3], .agg #[.int .i64 a1_0, .int .i64 a1_1, .int .i64 a1_2, .slice A1_3 l1_3.length c1_3]] rfl (by (try simp only [List.map_toArray, List.map_cons, List.map_nil]); first | done | rfl | (simp only [List.length_drop, List.length_take]; rfl)) ?_; (with_reducible refine (laws_eqMeta.calls k a0_0 a0_1 a0_2 _ _ l0_3 a1_0 a1_1 a1_2 _ _ l1_3 true _ ?side1 ?side2 ?side3 ?side4 A3.out).mono ?_); (case side1 => repeat (first | exact (Kd.C_below HR0_3.out HB.out) | (with_reducible refine Kd.C_alloc ?_ _) | (with_reducible refine Kd.C_drewN ?_ _) | (with_reducible refine Kd.C_drew ?_))); (case side2 => exact HC0_3.out); (case side3 => repeat (first | exact (Kd.C_below HR1_3.out HB.out) | (with_reducible refine Kd.C_alloc ?_ _) | (with_reducible refine Kd.C_drewN ?_ _) | (with_reducible refine Kd.C_drew ?_))); (case side4 => exact HC1_3.out); rintro e w13 ⟨rfl, hb⟩; refine ⟨_, rfl, ?_⟩; have n0_ := Aside0.mk (blk_below (g := gb280) (o := .cells #[.int .i64 a0_0, .int .i64 a0_1, .int .i64 a0_2, .slice A0_3 l0_3.length c0_3, .slice A0_4 l0_4.length c0_4, .slice A0_5 l0_5.length c0_5, .int .i64 a0_6, .slice A0_7 l0_7.length c0_7, .slice A0_8 l0_8.length c0_8, .slice A0_9 l0_9.length c0_9, .int .i64 a0_10] 49 (0, 0)) (by (with_reducible repeat (first | refine blk_drewN ?_ _ | refine blk_drew ?_ | refine blk_alloc ?_ _)); exact BK280.out) hb); have n1_ := Aside0.mk (blk_below (g := gb281) (o := .cells #[.int .i64 a1_0, .int .i64 a1_1, .int .i64 a1_2, .slice A1_3 l1_3.length c1_3, .slice A1_4 l1_4.length c1_4, .slice A1_5 l1_5.length c1_5, .int .i64 a1_6, .slice A1_7 l1_7.length c1_7, .slice A1_8 l1_8.length c1_8, .slice A1_9 l1_9.length c1_9, .int .i64 a1_10] 49 (0, 0)) (by (with_reducible repeat (first | refine blk_drewN ?_ _ | refine blk_drew ?_ | refine blk_alloc ?_ _)); exact BK281.out) hb); have n2_ := Aside0.mk (below_step (by repeat (first | (with_reducible first | exact HB.out | apply below_alloc | apply pw_below_drewN | apply below_drew1 | refine below_set ?_ GE280.out | refine below_set ?_ GE281.out) | exact HB.out)) hb); clear BK280; clear BK281; clear HB; have BK280 := n0_; have BK281 := n1_; have HB := n2_; clear n0_ n1_ n2_; (try clear hb); (try clear hb2); (try clear hk); (try clear hi); have hcz14_0 : w13.cell? ⟨gb280, 0, none⟩ = some (.int .i64 a0_0) := (blk_cell BK280.out 0).trans rfl; have hcz14_1 : w13.cell? ⟨gb280, 1, none⟩ = some (.int .i64 a0_1) := (blk_cell BK280.out 1).trans rfl; have hcz14_2 : w13.cell? ⟨gb280, 2, none⟩ = some (.int .i64 a0_2) := (blk_cell BK280.out 2).trans rfl; have hcz14_3 : w13.cell? ⟨gb280, 3, none⟩ = some (.slice A0_3 l0_3.length c0_3) := (blk_cell BK280.out 3).trans rfl; have hcz14_4 : w13.cell? ⟨gb280, 4, none⟩ = some (.slice A0_4 l0_4.length c0_4) := (blk_cell BK280.out 4).trans rfl; have hcz14_5 : w13.cell? ⟨gb280, 5, none⟩ = some (.slice A0_5 l0_5.length c0_5) := (blk_cell BK280.out 5).trans rfl; have hcz14_6 : w13.cell? ⟨gb280, 6, none⟩ = some (.int .i64 a0_6) := (blk_cell BK280.out 6).trans rfl; have hcz14_7 : w13.cell? ⟨gb280, 7, none⟩ = some (.slice A0_7 l0_7.length c0_7) := (blk_cell BK280.out 7).trans rfl; have hcz14_8 : w13.cell? ⟨gb280, 8, none⟩ = some (.slice A0_8 l0_8.length c0_8) := (blk_cell BK280.out 8).trans rfl; have hcz14_9 : w13.cell? ⟨gb280, 9, none⟩ = some (.slice A0_9 l0_9.length c0_9) := (blk_cell BK280.out 9).trans rfl; have hcz14_10 : w13.cell? ⟨gb280, 10, none⟩ = some (.int .i64 a0_10) := (blk_cell BK280.out 10).trans rfl; have hfz14_0 := blk_frozen BK280.out 0; have hfz14_1 := blk_frozen BK280.out 1; have hfz14_2 := blk_frozen BK280.out 2; have hfz14_3 := blk_frozen BK280.out 3; have hfz14_4 := blk_frozen BK280.out 4; have hfz14_5 := blk_frozen BK280.out 5; have hfz14_6 := blk_frozen BK280.out 6; have hfz14_7 := blk_frozen BK280.out 7; have hfz14_8 := blk_frozen BK280.out 8; have hfz14_9 := blk_frozen BK280.out 9; have hfz14_10 := blk_frozen BK280.out 10; have hcz15_0 : w13.cell? ⟨gb281, 0, none⟩ = some (.int .i64 a1_0) := (blk_cell BK281.out 0).trans rfl; have hcz15_1 : w13.cell? ⟨gb281, 1, none⟩ = some (.int .i64 a1_1) := (blk_cell BK281.out 1).trans rfl; have hcz15_2 : w13.cell? ⟨gb281, 2, none⟩ = some (.int .i64 a1_2) := (blk_cell BK281.out 2).trans rfl; have hcz15_3 : w13.cell? ⟨gb281, 3, none⟩ = some (.slice A1_3 l1_3.length c1_3) := (blk_cell BK281.out 3).trans rfl; have hcz15_4 : w13.cell? ⟨gb281, 4, none⟩ = some (.slice A1_4 l1_4.length c1_4) := (blk_cell BK281.out 4).trans rfl; have hcz15_5 : w13.cell? ⟨gb281, 5, none⟩ = some (.slice A1_5 l1_5.length c1_5) := (blk_cell BK281.out 5).trans rfl; have hcz15_6 : w13.cell? ⟨gb281, 6, none⟩ = some (.int .i64 a1_6) := (blk_cell BK281.out 6).trans rfl; have hcz15_7 : w13.cell? ⟨gb281, 7, none⟩ = some (.slice A1_7 l1_7.length c1_7) := (blk_cell BK281.out 7).trans rfl; have hcz15_8 : w13.cell? ⟨gb281, 8, none⟩ = some (.slice A1_8 l1_8.length c1_8) := (blk_cell BK281.out 8).trans rfl; have hcz15_9 : w13.cell? ⟨gb281, 9, none⟩ = some (.slice A1_9 l1_9.length c1_9) := (blk_cell BK281.out 9).trans rfl; have hcz15_10 : w13.cell? ⟨gb281, 10, none⟩ = some (.int .i64 a1_10) := (blk_cell BK281.out 10).trans rfl; have hfz15_0 := blk_frozen BK281.out 0; have hfz15_1 := blk_frozen BK281.out 1; have hfz15_2 := blk_frozen BK281.out 2; have hfz15_3 := blk_frozen BK281.out 3; have hfz15_4 := blk_frozen BK281.out 4; have hfz15_5 := blk_frozen BK281.out 5; have hfz15_6 := blk_frozen BK281.out 6; have hfz15_7 := blk_frozen BK281.out 7; have hfz15_8 := blk_frozen BK281.out 8; have hfz15_9 := blk_frozen BK281.out 9; have hfz15_10 := blk_frozen BK281.out 10) | ((with_reducible refine gate_callee (f := 121) rfl ?_); refine goesL_ (some 15) rfl rfl Try.func121 (by kernel_rfl) rfl #[.agg #[.slice A0_4 l0_4.length c0_4, .slice A0_5 l0_5.length c0_5, .int .i64 a0_6, .slice A0_7 l0_7.length c0_7, .slice A0_8 l0_8.length c0_8, .slice A0_9 l0_9.length c0_9], .agg #[.slice A1_4 l1_4.length c1_4, .slice A1_5 l1_5.length c1_5, .int .i64 a1_6, .slice A1_7 l1_7.length c1_7, .slice A1_8 l1_8.length c1_8, .slice A1_9 l1_9.length c1_9]] rfl (by (try simp only [List.map_toArray, List.map_cons, List.map_nil]); first | done | rfl | (simp only [List.length_drop, List.length_take]; rfl)) ?_; (with_reducible refine (laws_eqWork.calls k _ _ l0_4 _ _ l0_5 a0_6 _ _ l0_7 _ _ l0_8 _ _ l0_9 _ _ l1_4 _ _ l1_5 a1_6 _ _ l1_7 _ _ l1_8 _ _ l1_9 true _ ?side1 ?side2 ?side3 ?side4 ?side5 ?side6 ?side7 ?side8 ?side9 ?side10 ?side11 ?side12 ?side13 ?side14 ?side15 ?side16 ?side17 ?side18 ?side19 ?side20 A5.out).mono ?_); (case side1 => repeat (first | exact (Kd.C_below HR0_4.out HB.out) | (with_reducible refine Kd.C_alloc ?_ _) | (with_reducible refine Kd.C_drewN ?_ _) | (with_reducible refine Kd.C_drew ?_))); (case side2 => exact HC0_4.out); (case side3 => repeat (first | exact (Kd.C_below HR0_5.out HB.out) | (with_reducible refine Kd.C_alloc ?_ _) | (with_reducible refine Kd.C_drewN ?_ _) | (with_reducible refine Kd.C_drew ?_))); (case side4 => exact HC0_5.out); (case side5 => repeat (first | exact (Kd.C_below HR0_7.out HB.out) | (with_reducible refine Kd.C_alloc ?_ _) | (with_reducible refine Kd.C_drewN ?_ _) | (with_reducible refine Kd.C_drew ?_))); (case side6 => exact HC0_7.out); (case side7 => repeat (first | exact (Kd.C_below HR0_8.out HB.out) | (with_reducible refine Kd.C_alloc ?_ _) | (with_reducible refine Kd.C_drewN ?_ _) | (with_reducible refine Kd.C_drew ?_))); (case side8 => exact HC0_8.out); (case side9 => repeat (first | exact (Kd.C_below HR0_9.out HB.out) | (with_reducible refine Kd.C_alloc ?_ _) | (with_reducible refine Kd.C_drewN ?_ _) | (with_reducible refine Kd.C_drew ?_))); (case side10 => exact HC0_9.out); (case side11 => repeat (first | exact (Kd.C_below HR1_4.out HB.out) | (with_reducible refine Kd.C_alloc ?_ _) | (with_reducible refine Kd.C_drewN ?_ _) | (with_reducible refine Kd.C_drew ?_))); (case side12 => exact HC1_4.out); (case side13 => repeat (first | exact (Kd.C_below HR1_5.out HB.out) | (with_reducible refine Kd.C_alloc ?_ _) | (with_reducible refine Kd.C_drewN ?_ _) | (with_reducible refine Kd.C_drew ?_))); (case side14 => exact HC1_5.out); (case side15 => repeat (first | exact (Kd.C_below HR1_7.out HB.out) | (with_reducible refine Kd.C_alloc ?_ _) | (with_reducible refine Kd.C_drewN ?_ _) | (with_reducible refine Kd.C_drew ?_))); (case side16 => exact HC1_7.out); (case side17 => repeat (first | exact (Kd.C_below HR1_8.out HB.out) | (with_reducible refine Kd.C_alloc ?_ _) | (with_reducible refine Kd.C_drewN ?_ _) | (with_reducible refine Kd.C_drew ?_))); (case side18 => exact HC1_8.out); (case side19 => repeat (first | exact (Kd.C_below HR1_9.out HB.out) | (with_reducible refine Kd.C_alloc ?_ _) | (with_reducible refine Kd.C_drewN ?_ _) | (with_reducible refine Kd.C_drew ?_))); (case side20 => exact HC1_9.out); rintro e w16 ⟨rfl, hb⟩; refine ⟨_, rfl, ?_⟩; have n0_ := Aside0.mk (blk_below (g := gb280) (o := .cells #[.int .i64 a0_0, .int .i64 a0_1, .int .i64 a0_2, .slice A0_3 l0_3.length c0_3, .slice A0_4 l0_4.length c0_4, .slice A0_5 l0_5.length c0_5, .int .i64 a0_6, .slice A0_7 l0_7.length c0_7, .slice A0_8 l0_8.length c0_8, .slice A0_9 l0_9.length c0_9, .int .i64 a0_10] 49 (0, 0)) (by (with_reducible repeat (first | refine blk_drewN ?_ _ | refine blk_drew ?_ | refine blk_alloc ?_ _)); exact BK280.out) hb); have n1_ := Aside0.mk (blk_below (g := gb281) (o := .cells #[.int .i64 a1_0, .int .i64 a1_1, .int .i64 a1_2, .slice A1_3 l1_3.length c1_3, .slice A1_4 l1_4.length c1_4, .slice A1_5 l1_5.length c1_5, .int .i64 a1_6, .slice A1_7 l1_7.length c1_7, .slice A1_8 l1_8.length c1_8, .slice A1_9 l1_9.length c1_9, .int .i64 a1_10] 49 (0, 0)) (by (with_reducible repeat (first | refine blk_drewN ?_ _ | refine blk_drew ?_ | refine blk_alloc ?_ _)); exact BK281.out) hb); have n2_ := Aside0.mk (below_step (by repeat (first | (with_reducible first | exact HB.out | apply below_alloc | apply pw_below_drewN | apply below_drew1 | refine below_set ?_ GE280.out | refine below_set ?_ GE281.out) | exact HB.out)) hb); clear BK280; clear BK281; clear HB; have BK280 := n0_; have BK281 := n1_; have HB := n2_; clear n0_ n1_ n2_; (try clear hb); (try clear hb2); (try clear hk); (try clear hi); have hcz17_0 : w16.cell? ⟨gb280, 0, none⟩ = some (.int .i64 a0_0) := (blk_cell BK280.out 0).trans rfl; have hcz17_1 : w16.cell? ⟨gb280, 1, none⟩ = some (.int .i64 a0_1) := (blk_cell BK280.out 1).trans rfl; have hcz17_2 : w16.cell? ⟨gb280, 2, none⟩ = some (.int .i64 a0_2) := (blk_cell BK280.out 2).trans rfl; have hcz17_3 : w16.cell? ⟨gb280, 3, none⟩ = some (.slice A0_3 l0_3.length c0_3) := (blk_cell BK280.out 3).trans rfl; have hcz17_4 : w16.cell? ⟨gb280, 4, none⟩ = some (.slice A0_4 l0_4.length c0_4) := (blk_cell BK280.out 4).trans rfl; have hcz17_5 : w16.cell? ⟨gb280, 5, none⟩ = some (.slice A0_5 l0_5.length c0_5) := (blk_cell BK280.out 5).trans rfl; have hcz17_6 : w16.cell? ⟨gb280, 6, none⟩ = some (.int .i64 a0_6) := (blk_cell BK280.out 6).trans rfl; have hcz17_7 : w16.cell? ⟨gb280, 7, none⟩ = some (.slice A0_7 l0_7.length c0_7) := (blk_cell BK280.out 7).trans rfl; have hcz17_8 : w16.cell? ⟨gb280, 8, none⟩ = some (.slice A0_8 l0_8.length c0_8) := (blk_cell BK280.out 8).trans rfl; have hcz17_9 : w16.cell? ⟨gb280, 9, none⟩ = some (.slice A0_9 l0_9.length c0_9) := (blk_cell BK280.out 9).trans rfl; have hcz17_10 : w16.cell? ⟨gb280, 10, none⟩ = some (.int .i64 a0_10) := (blk_cell BK280.out 10).trans rfl; have hfz17_0 := blk_frozen BK280.out 0; have hfz17_1 := blk_frozen BK280.out 1; have hfz17_2 := blk_frozen BK280.out 2; have hfz17_3 := blk_frozen BK280.out 3; have hfz17_4 := blk_frozen BK280.out 4; have hfz17_5 := blk_frozen BK280.out 5; have hfz17_6 := blk_frozen BK280.out 6; have hfz17_7 := blk_frozen BK280.out 7; have hfz17_8 := blk_frozen BK280.out 8; have hfz17_9 := blk_frozen BK280.out 9; have hfz17_10 := blk_frozen BK280.out 10; have hcz18_0 : w16.cell? ⟨gb281, 0, none⟩ = some (.int .i64 a1_0) := (blk_cell BK281.out 0).trans rfl; have hcz18_1 : w16.cell? ⟨gb281, 1, none⟩ = some (.int .i64 a1_1) := (blk_cell BK281.out 1).trans rfl; have hcz18_2 : w16.cell? ⟨gb281, 2, none⟩ = some (.int .i64 a1_2) := (blk_cell BK281.out 2).trans rfl; have hcz18_3 : w16.cell? ⟨gb281, 3, none⟩ = some (.slice A1_3 l1_3.length c1_3) := (blk_cell BK281.out 3).trans rfl; have hcz18_4 : w16.cell? ⟨gb281, 4, none⟩ = some (.slice A1_4 l1_4.length c1_4) := (blk_cell BK281.out 4).trans rfl; have hcz18_5 : w16.cell? ⟨gb281, 5, none⟩ = some (.slice A1_5 l1_5.length c1_5) := (blk_cell BK281.out 5).trans rfl; have hcz18_6 : w16.cell? ⟨gb281, 6, none⟩ = some (.int .i64 a1_6) := (blk_cell BK281.out 6).trans rfl; have hcz18_7 : w16.cell? ⟨gb281, 7, none⟩ = some (.slice A1_7 l1_7.length c1_7) := (blk_cell BK281.out 7).trans rfl; have hcz18_8 : w16.cell? ⟨gb281, 8, none⟩ = some (.slice A1_8 l1_8.length c1_8) := (blk_cell BK281.out 8).trans rfl; have hcz18_9 : w16.cell? ⟨gb281, 9, none⟩ = some (.slice A1_9 l1_9.length c1_9) := (blk_cell BK281.out 9).trans rfl; have hcz18_10 : w16.cell? ⟨gb281, 10, none⟩ = some (.int .i64 a1_10) := (blk_cell BK281.out 10).trans rfl; have hfz18_0 := blk_frozen BK281.out 0; have hfz18_1 := blk_frozen BK281.out 1; have hfz18_2 := blk_frozen BK281.out 2; have hfz18_3 := blk_frozen BK281.out 3; have hfz18_4 := blk_frozen BK281.out 4; have hfz18_5 := blk_frozen BK281.out 5; have hfz18_6 := blk_frozen BK281.out 6; have hfz18_7 := blk_frozen BK281.out 7; have hfz18_8 := blk_frozen BK281.out 8; have hfz18_9 := blk_frozen BK281.out 9; have hfz18_10 := blk_frozen BK281.out 10))
    go_ret
    exact ⟨by first | rfl | (simp [errW_none, errW_some] <;> rfl) | (simp [*, errW_none, errW_some] <;> rfl), by repeat (first | (with_reducible first | exact HB.out | apply below_alloc | apply pw_below_drewN | apply below_drew1 | refine below_set ?_ GE280.out | refine below_set ?_ GE281.out) | exact HB.out)⟩
   ·rw [if_neg c7] at H
    exact absurd H (by simp)
  ·replace c6 := Bool.eq_false_iff.mpr c6
   subst c6
   have H1 : (none) = some r := by rw [if_neg (show ¬ (false = true) by decide)] at H; exact H
   clear H
   have H := H1
   clear H1
   exact absurd H (by simp)
 ·replace c4 := Bool.eq_false_iff.mpr c4
  subst c4
  have H1 : (none) = some r := by rw [if_neg (show ¬ (false = true) by decide)] at H; exact H
  clear H
  have H := H1
  clear H1
  exact absurd H (by simp)
def laws_eqStore.f (k : Nat) (l0_0 : List ByteArray) (l0_1 : List (S189)) (a0_2 : Int) (a0_3 : Int) (a0_4 : Int) (l0_5 : List (S109)) (l0_6 : List (S99)) (a0_7 : Int) (a0_8 : Int) (a0_9 : Int) (l0_10 : List (S109)) (l0_11 : List ByteArray) (l0_12 : List (S189)) (a0_13 : Int) (l0_14 : List Int) (l0_15 : List Int) (l0_16 : List Int) (a0_17 : Int) (a0_18 : Bool) (a0_19 : Bool) (l1_0 : List ByteArray) (l1_1 : List (S189)) (a1_2 : Int) (a1_3 : Int) (a1_4 : Int) (l1_5 : List (S109)) (l1_6 : List (S99)) (a1_7 : Int) (a1_8 : Int) (a1_9 : Int) (l1_10 : List (S109)) (l1_11 : List ByteArray) (l1_12 : List (S189)) (a1_13 : Int) (l1_14 : List Int) (l1_15 : List Int) (l1_16 : List Int) (a1_17 : Int) (a1_18 : Bool) (a1_19 : Bool) : Option (Bool) := (laws_eqDisk.f k l0_0 l0_1 l1_0 l1_1).bind fun t286 => (if t286 = true then ((laws_eqMeta.f k a0_2 a0_3 a0_4 l0_5 a1_2 a1_3 a1_4 l1_5).bind fun t287 => (if t287 = true then ((laws_eqReaderS.f k l0_6 l1_6).bind fun t288 => (if t288 = true then ((laws_eqTxn.f k a0_7 a0_8 a0_9 l0_10 l0_11 l0_12 a0_13 l0_14 l0_15 l0_16 a0_17 a1_7 a1_8 a1_9 l1_10 l1_11 l1_12 a1_13 l1_14 l1_15 l1_16 a1_17).bind fun t289 => (if t289 = true then (if (a0_18 != a1_18) = true then (none) else (if (a0_19 != a1_19) = true then (none) else (some true))) else (none))) else (none))) else (none))) else (none))
theorem laws_eqStore.mono : ∀ a0 a1 a2 a3 a4 a5 a6 a7 a8 a9 a10 a11 a12 a13 a14 a15 a16 a17 a18 a19 a20 a21 a22 a23 a24 a25 a26 a27 a28 a29 a30 a31 a32 a33 a34 a35 a36 a37 a38 a39 k, LeO (laws_eqStore.f k a0 a1 a2 a3 a4 a5 a6 a7 a8 a9 a10 a11 a12 a13 a14 a15 a16 a17 a18 a19 a20 a21 a22 a23 a24 a25 a26 a27 a28 a29 a30 a31 a32 a33 a34 a35 a36 a37 a38 a39) (laws_eqStore.f (k + 1) a0 a1 a2 a3 a4 a5 a6 a7 a8 a9 a10 a11 a12 a13 a14 a15 a16 a17 a18 a19 a20 a21 a22 a23 a24 a25 a26 a27 a28 a29 a30 a31 a32 a33 a34 a35 a36 a37 a38 a39) := by
 intro a0 a1 a2 a3 a4 a5 a6 a7 a8 a9 a10 a11 a12 a13 a14 a15 a16 a17 a18 a19 a20 a21 a22 a23 a24 a25 a26 a27 a28 a29 a30 a31 a32 a33 a34 a35 a36 a37 a38 a39 k
 unfold laws_eqStore.f
 repeat' first
   | (with_reducible exact laws_eqDisk.mono _ _ _ _ _)
   | (with_reducible exact laws_eqMeta.mono _ _ _ _ _ _ _ _ _)
   | (with_reducible exact laws_eqReaderS.mono _ _ _)
   | (with_reducible exact laws_eqTxn.mono _ _ _ _ _ _ _ _ _ _ _ _ _ _ _ _ _ _ _ _ _ _ _)
   | (with_reducible exact LeO.refl _)
   | (with_reducible exact LeO.none _)
   | (with_reducible refine LeO.ite ?_ ?_)
   | (with_reducible refine LeO.bind ?_ (fun _ => ?_))
   | exact laws_eqDisk.mono _ _ _ _ _
   | exact laws_eqMeta.mono _ _ _ _ _ _ _ _ _
   | exact laws_eqReaderS.mono _ _ _
   | exact laws_eqTxn.mono _ _ _ _ _ _ _ _ _ _ _ _ _ _ _ _ _ _ _ _ _ _ _
theorem laws_eqStore.calls (k : Nat) (A0_0 : Option Addr) (c0_0 : Nat) (l0_0 : List ByteArray) (A0_1 : Option Addr) (c0_1 : Nat) (l0_1 : List (S189)) (a0_2 : Int) (a0_3 : Int) (a0_4 : Int) (A0_5 : Option Addr) (c0_5 : Nat) (l0_5 : List (S109)) (A0_6 : Option Addr) (c0_6 : Nat) (l0_6 : List (S99)) (a0_7 : Int) (a0_8 : Int) (a0_9 : Int) (A0_10 : Option Addr) (c0_10 : Nat) (l0_10 : List (S109)) (A0_11 : Option Addr) (c0_11 : Nat) (l0_11 : List ByteArray) (A0_12 : Option Addr) (c0_12 : Nat) (l0_12 : List (S189)) (a0_13 : Int) (A0_14 : Option Addr) (c0_14 : Nat) (l0_14 : List Int) (A0_15 : Option Addr) (c0_15 : Nat) (l0_15 : List Int) (A0_16 : Option Addr) (c0_16 : Nat) (l0_16 : List Int) (a0_17 : Int) (a0_18 : Bool) (a0_19 : Bool) (A1_0 : Option Addr) (c1_0 : Nat) (l1_0 : List ByteArray) (A1_1 : Option Addr) (c1_1 : Nat) (l1_1 : List (S189)) (a1_2 : Int) (a1_3 : Int) (a1_4 : Int) (A1_5 : Option Addr) (c1_5 : Nat) (l1_5 : List (S109)) (A1_6 : Option Addr) (c1_6 : Nat) (l1_6 : List (S99)) (a1_7 : Int) (a1_8 : Int) (a1_9 : Int) (A1_10 : Option Addr) (c1_10 : Nat) (l1_10 : List (S109)) (A1_11 : Option Addr) (c1_11 : Nat) (l1_11 : List ByteArray) (A1_12 : Option Addr) (c1_12 : Nat) (l1_12 : List (S189)) (a1_13 : Int) (A1_14 : Option Addr) (c1_14 : Nat) (l1_14 : List Int) (A1_15 : Option Addr) (c1_15 : Nat) (l1_15 : List Int) (A1_16 : Option Addr) (c1_16 : Nat) (l1_16 : List Int) (a1_17 : Int) (a1_18 : Bool) (a1_19 : Bool) (r : Bool) (w : World) (hr0_0 : Kd.C Kd.string w A0_0 l0_0.length l0_0) (hc0_0 : l0_0.length ≤ c0_0) (hr0_1 : Kd.C k189 w A0_1 l0_1.length l0_1) (hc0_1 : l0_1.length ≤ c0_1) (hr0_5 : Kd.C k109 w A0_5 l0_5.length l0_5) (hc0_5 : l0_5.length ≤ c0_5) (hr0_6 : Kd.C k99 w A0_6 l0_6.length l0_6) (hc0_6 : l0_6.length ≤ c0_6) (hr0_10 : Kd.C k109 w A0_10 l0_10.length l0_10) (hc0_10 : l0_10.length ≤ c0_10) (hr0_11 : Kd.C Kd.string w A0_11 l0_11.length l0_11) (hc0_11 : l0_11.length ≤ c0_11) (hr0_12 : Kd.C k189 w A0_12 l0_12.length l0_12) (hc0_12 : l0_12.length ≤ c0_12) (hr0_14 : Kd.C (Kd.int .i64) w A0_14 l0_14.length l0_14) (hc0_14 : l0_14.length ≤ c0_14) (hr0_15 : Kd.C (Kd.int .i64) w A0_15 l0_15.length l0_15) (hc0_15 : l0_15.length ≤ c0_15) (hr0_16 : Kd.C (Kd.int .i64) w A0_16 l0_16.length l0_16) (hc0_16 : l0_16.length ≤ c0_16) (hr1_0 : Kd.C Kd.string w A1_0 l1_0.length l1_0) (hc1_0 : l1_0.length ≤ c1_0) (hr1_1 : Kd.C k189 w A1_1 l1_1.length l1_1) (hc1_1 : l1_1.length ≤ c1_1) (hr1_5 : Kd.C k109 w A1_5 l1_5.length l1_5) (hc1_5 : l1_5.length ≤ c1_5) (hr1_6 : Kd.C k99 w A1_6 l1_6.length l1_6) (hc1_6 : l1_6.length ≤ c1_6) (hr1_10 : Kd.C k109 w A1_10 l1_10.length l1_10) (hc1_10 : l1_10.length ≤ c1_10) (hr1_11 : Kd.C Kd.string w A1_11 l1_11.length l1_11) (hc1_11 : l1_11.length ≤ c1_11) (hr1_12 : Kd.C k189 w A1_12 l1_12.length l1_12) (hc1_12 : l1_12.length ≤ c1_12) (hr1_14 : Kd.C (Kd.int .i64) w A1_14 l1_14.length l1_14) (hc1_14 : l1_14.length ≤ c1_14) (hr1_15 : Kd.C (Kd.int .i64) w A1_15 l1_15.length l1_15) (hc1_15 : l1_15.length ≤ c1_15) (hr1_16 : Kd.C (Kd.int .i64) w A1_16 l1_16.length l1_16) (hc1_16 : l1_16.length ≤ c1_16) (h : laws_eqStore.f k l0_0 l0_1 a0_2 a0_3 a0_4 l0_5 l0_6 a0_7 a0_8 a0_9 l0_10 l0_11 l0_12 a0_13 l0_14 l0_15 l0_16 a0_17 a0_18 a0_19 l1_0 l1_1 a1_2 a1_3 a1_4 l1_5 l1_6 a1_7 a1_8 a1_9 l1_10 l1_11 l1_12 a1_13 l1_14 l1_15 l1_16 a1_17 a1_18 a1_19 = some r) :
  Calls Try.prog 15 #[.agg #[.slice A0_0 l0_0.length c0_0, .slice A0_1 l0_1.length c0_1, .int .i64 a0_2, .int .i64 a0_3, .int .i64 a0_4, .slice A0_5 l0_5.length c0_5, .slice A0_6 l0_6.length c0_6, .int .i64 a0_7, .int .i64 a0_8, .int .i64 a0_9, .slice A0_10 l0_10.length c0_10, .slice A0_11 l0_11.length c0_11, .slice A0_12 l0_12.length c0_12, .int .i64 a0_13, .slice A0_14 l0_14.length c0_14, .slice A0_15 l0_15.length c0_15, .slice A0_16 l0_16.length c0_16, .int .i64 a0_17, .bool a0_18, .bool a0_19], .agg #[.slice A1_0 l1_0.length c1_0, .slice A1_1 l1_1.length c1_1, .int .i64 a1_2, .int .i64 a1_3, .int .i64 a1_4, .slice A1_5 l1_5.length c1_5, .slice A1_6 l1_6.length c1_6, .int .i64 a1_7, .int .i64 a1_8, .int .i64 a1_9, .slice A1_10 l1_10.length c1_10, .slice A1_11 l1_11.length c1_11, .slice A1_12 l1_12.length c1_12, .int .i64 a1_13, .slice A1_14 l1_14.length c1_14, .slice A1_15 l1_15.length c1_15, .slice A1_16 l1_16.length c1_16, .int .i64 a1_17, .bool a1_18, .bool a1_19]] w fun e w' => e = .returned (.bool r) ∧ Below w.heap.size w w' := by
 have hu51 := Try.underlying51
 have hu41 := Try.underlying41
 have hu44 := Try.underlying44
 have hu49 := Try.underlying49
 have HR0_0 := Aside0.mk hr0_0
 have HC0_0 := Aside0.mk hc0_0
 clear hr0_0 hc0_0
 have HR0_1 := Aside0.mk hr0_1
 have HC0_1 := Aside0.mk hc0_1
 clear hr0_1 hc0_1
 have HR0_5 := Aside0.mk hr0_5
 have HC0_5 := Aside0.mk hc0_5
 clear hr0_5 hc0_5
 have HR0_6 := Aside0.mk hr0_6
 have HC0_6 := Aside0.mk hc0_6
 clear hr0_6 hc0_6
 have HR0_10 := Aside0.mk hr0_10
 have HC0_10 := Aside0.mk hc0_10
 clear hr0_10 hc0_10
 have HR0_11 := Aside0.mk hr0_11
 have HC0_11 := Aside0.mk hc0_11
 clear hr0_11 hc0_11
 have HR0_12 := Aside0.mk hr0_12
 have HC0_12 := Aside0.mk hc0_12
 clear hr0_12 hc0_12
 have HR0_14 := Aside0.mk hr0_14
 have HC0_14 := Aside0.mk hc0_14
 clear hr0_14 hc0_14
 have HR0_15 := Aside0.mk hr0_15
 have HC0_15 := Aside0.mk hc0_15
 clear hr0_15 hc0_15
 have HR0_16 := Aside0.mk hr0_16
 have HC0_16 := Aside0.mk hc0_16
 clear hr0_16 hc0_16
 have HR1_0 := Aside0.mk hr1_0
 have HC1_0 := Aside0.mk hc1_0
 clear hr1_0 hc1_0
 have HR1_1 := Aside0.mk hr1_1
 have HC1_1 := Aside0.mk hc1_1
 clear hr1_1 hc1_1
 have HR1_5 := Aside0.mk hr1_5
 have HC1_5 := Aside0.mk hc1_5
 clear hr1_5 hc1_5
 have HR1_6 := Aside0.mk hr1_6
 have HC1_6 := Aside0.mk hc1_6
 clear hr1_6 hc1_6
 have HR1_10 := Aside0.mk hr1_10
 have HC1_10 := Aside0.mk hc1_10
 clear hr1_10 hc1_10
 have HR1_11 := Aside0.mk hr1_11
 have HC1_11 := Aside0.mk hc1_11
 clear hr1_11 hc1_11
 have HR1_12 := Aside0.mk hr1_12
 have HC1_12 := Aside0.mk hc1_12
 clear hr1_12 hc1_12
 have HR1_14 := Aside0.mk hr1_14
 have HC1_14 := Aside0.mk hc1_14
 clear hr1_14 hc1_14
 have HR1_15 := Aside0.mk hr1_15
 have HC1_15 := Aside0.mk hc1_15
 clear hr1_15 hc1_15
 have HR1_16 := Aside0.mk hr1_16
 have HC1_16 := Aside0.mk hc1_16
 clear hr1_16 hc1_16
 have HB := Aside0.mk (Below.refl w.heap.size w)
 have H : ((laws_eqDisk.f k l0_0 l0_1 l1_0 l1_1).bind fun t286 => (if t286 = true then ((laws_eqMeta.f k a0_2 a0_3 a0_4 l0_5 a1_2 a1_3 a1_4 l1_5).bind fun t287 => (if t287 = true then ((laws_eqReaderS.f k l0_6 l1_6).bind fun t288 => (if t288 = true then ((laws_eqTxn.f k a0_7 a0_8 a0_9 l0_10 l0_11 l0_12 a0_13 l0_14 l0_15 l0_16 a0_17 a1_7 a1_8 a1_9 l1_10 l1_11 l1_12 a1_13 l1_14 l1_15 l1_16 a1_17).bind fun t289 => (if t289 = true then (if (a0_18 != a1_18) = true then (none) else (if (a0_19 != a1_19) = true then (none) else (some true))) else (none))) else (none))) else (none))) else (none))) = some r := h
 clear h
 replace H := Option.bind_eq_some_iff.mp H
 obtain ⟨t286, A30, H⟩ := H
 replace H : (if t286 = true then ((laws_eqMeta.f k a0_2 a0_3 a0_4 l0_5 a1_2 a1_3 a1_4 l1_5).bind fun t287 => (if t287 = true then ((laws_eqReaderS.f k l0_6 l1_6).bind fun t288 => (if t288 = true then ((laws_eqTxn.f k a0_7 a0_8 a0_9 l0_10 l0_11 l0_12 a0_13 l0_14 l0_15 l0_16 a0_17 a1_7 a1_8 a1_9 l1_10 l1_11 l1_12 a1_13 l1_14 l1_15 l1_16 a1_17).bind fun t289 => (if t289 = true then (if (a0_18 != a1_18) = true then (none) else (if (a0_19 != a1_19) = true then (none) else (some true))) else (none))) else (none))) else (none))) else (none)) = some r := H
 have A3 := Aside0.mk A30
 clear A30
 by_cases c4 : t286 = true
 ·subst c4
  have H1 : ((laws_eqMeta.f k a0_2 a0_3 a0_4 l0_5 a1_2 a1_3 a1_4 l1_5).bind fun t287 => (if t287 = true then ((laws_eqReaderS.f k l0_6 l1_6).bind fun t288 => (if t288 = true then ((laws_eqTxn.f k a0_7 a0_8 a0_9 l0_10 l0_11 l0_12 a0_13 l0_14 l0_15 l0_16 a0_17 a1_7 a1_8 a1_9 l1_10 l1_11 l1_12 a1_13 l1_14 l1_15 l1_16 a1_17).bind fun t289 => (if t289 = true then (if (a0_18 != a1_18) = true then (none) else (if (a0_19 != a1_19) = true then (none) else (some true))) else (none))) else (none))) else (none))) = some r := by rw [if_pos rfl] at H; exact H
  clear H
  have H := H1
  clear H1
  replace H := Option.bind_eq_some_iff.mp H
  obtain ⟨t287, A50, H⟩ := H
  replace H : (if t287 = true then ((laws_eqReaderS.f k l0_6 l1_6).bind fun t288 => (if t288 = true then ((laws_eqTxn.f k a0_7 a0_8 a0_9 l0_10 l0_11 l0_12 a0_13 l0_14 l0_15 l0_16 a0_17 a1_7 a1_8 a1_9 l1_10 l1_11 l1_12 a1_13 l1_14 l1_15 l1_16 a1_17).bind fun t289 => (if t289 = true then (if (a0_18 != a1_18) = true then (none) else (if (a0_19 != a1_19) = true then (none) else (some true))) else (none))) else (none))) else (none)) = some r := H
  have A5 := Aside0.mk A50
  clear A50
  by_cases c6 : t287 = true
  ·subst c6
   have H1 : ((laws_eqReaderS.f k l0_6 l1_6).bind fun t288 => (if t288 = true then ((laws_eqTxn.f k a0_7 a0_8 a0_9 l0_10 l0_11 l0_12 a0_13 l0_14 l0_15 l0_16 a0_17 a1_7 a1_8 a1_9 l1_10 l1_11 l1_12 a1_13 l1_14 l1_15 l1_16 a1_17).bind fun t289 => (if t289 = true then (if (a0_18 != a1_18) = true then (none) else (if (a0_19 != a1_19) = true then (none) else (some true))) else (none))) else (none))) = some r := by rw [if_pos rfl] at H; exact H
   clear H
   have H := H1
   clear H1
   replace H := Option.bind_eq_some_iff.mp H
   obtain ⟨t288, A70, H⟩ := H
   replace H : (if t288 = true then ((laws_eqTxn.f k a0_7 a0_8 a0_9 l0_10 l0_11 l0_12 a0_13 l0_14 l0_15 l0_16 a0_17 a1_7 a1_8 a1_9 l1_10 l1_11 l1_12 a1_13 l1_14 l1_15 l1_16 a1_17).bind fun t289 => (if t289 = true then (if (a0_18 != a1_18) = true then (none) else (if (a0_19 != a1_19) = true then (none) else (some true))) else (none))) else (none)) = some r := H
   have A7 := Aside0.mk A70
   clear A70
   by_cases c8 : t288 = true
   ·subst c8
    have H1 : ((laws_eqTxn.f k a0_7 a0_8 a0_9 l0_10 l0_11 l0_12 a0_13 l0_14 l0_15 l0_16 a0_17 a1_7 a1_8 a1_9 l1_10 l1_11 l1_12 a1_13 l1_14 l1_15 l1_16 a1_17).bind fun t289 => (if t289 = true then (if (a0_18 != a1_18) = true then (none) else (if (a0_19 != a1_19) = true then (none) else (some true))) else (none))) = some r := by rw [if_pos rfl] at H; exact H
    clear H
    have H := H1
    clear H1
    replace H := Option.bind_eq_some_iff.mp H
    obtain ⟨t289, A90, H⟩ := H
    replace H : (if t289 = true then (if (a0_18 != a1_18) = true then (none) else (if (a0_19 != a1_19) = true then (none) else (some true))) else (none)) = some r := H
    have A9 := Aside0.mk A90
    clear A90
    by_cases c10 : t289 = true
    ·subst c10
     have H1 : (if (a0_18 != a1_18) = true then (none) else (if (a0_19 != a1_19) = true then (none) else (some true))) = some r := by rw [if_pos rfl] at H; exact H
     clear H
     have H := H1
     clear H1
     by_cases c11 : (a0_18 != a1_18) = true
     ·rw [if_pos c11] at H
      exact absurd H (by simp)
     ·rw [if_neg c11] at H
      have c11b0 : (a0_18 != a1_18) = false := by simpa using c11
      (try (have c11b1 : decide (a0_18 = a1_18) = true := by simpa using c11))
      (try (have c11b2 : (a0_18 == a1_18) = true := by simpa using c11))
      clear c11
      by_cases c12 : (a0_19 != a1_19) = true
      ·rw [if_pos c12] at H
       exact absurd H (by simp)
      ·rw [if_neg c12] at H
       have c12b0 : (a0_19 != a1_19) = false := by simpa using c12
       (try (have c12b1 : decide (a0_19 = a1_19) = true := by simpa using c12))
       (try (have c12b2 : (a0_19 == a1_19) = true := by simpa using c12))
       clear c12
       obtain rfl := Option.some.inj H
       go_enter Try.func15, Try.ntmps15
       go_wp2_with (first | ((with_reducible refine gate_dst (N := 2) rfl ?_); refine box_event ?hg (N := 2) ?hd (cs := #[.slice A0_0 l0_0.length c0_0, .slice A0_1 l0_1.length c0_1, .int .i64 a0_2, .int .i64 a0_3, .int .i64 a0_4, .slice A0_5 l0_5.length c0_5, .slice A0_6 l0_6.length c0_6, .int .i64 a0_7, .int .i64 a0_8, .int .i64 a0_9, .slice A0_10 l0_10.length c0_10, .slice A0_11 l0_11.length c0_11, .slice A0_12 l0_12.length c0_12, .int .i64 a0_13, .slice A0_14 l0_14.length c0_14, .slice A0_15 l0_15.length c0_15, .slice A0_16 l0_16.length c0_16, .int .i64 a0_17, .bool a0_18, .bool a0_19]) (t := 51) ?hr ?_; (case hd => rfl); (case hg => rfl); (case hr => first | (go_simp; done) | (go_simp; rfl)); intro gb284 hg w13 hbox hb; have n0_ := Aside0.mk (below_step (by repeat (first | (with_reducible first | exact HB.out | apply below_alloc | apply pw_below_drewN | apply below_drew1) | exact HB.out)) hb); have n1_ := Aside0.mk (hbox); have n2_ := Aside0.mk ((by rw [hg]; exact (below_size (by repeat (first | (with_reducible first | exact HB.out | apply below_alloc | apply pw_below_drewN | apply below_drew1) | exact HB.out))) : w.heap.size ≤ gb284)); have n3_ := Aside0.mk ((by rw [hg]; exact (below_size (by repeat (first | (with_reducible first | exact HB.out | apply below_alloc | apply pw_below_drewN | apply below_drew1) | exact HB.out))) : w.heap.size ≤ gb284)); clear HB; have HB := n0_; have BK284 := n1_; have GW284 := n2_; have GE284 := n3_; clear n0_ n1_ n2_ n3_; clear hb hbox hg) | ((with_reducible refine gate_dst (N := 3) rfl ?_); refine box_event ?hg (N := 3) ?hd (cs := #[.slice A1_0 l1_0.length c1_0, .slice A1_1 l1_1.length c1_1, .int .i64 a1_2, .int .i64 a1_3, .int .i64 a1_4, .slice A1_5 l1_5.length c1_5, .slice A1_6 l1_6.length c1_6, .int .i64 a1_7, .int .i64 a1_8, .int .i64 a1_9, .slice A1_10 l1_10.length c1_10, .slice A1_11 l1_11.length c1_11, .slice A1_12 l1_12.length c1_12, .int .i64 a1_13, .slice A1_14 l1_14.length c1_14, .slice A1_15 l1_15.length c1_15, .slice A1_16 l1_16.length c1_16, .int .i64 a1_17, .bool a1_18, .bool a1_19]) (t := 51) ?hr ?_; (case hd => rfl); (case hg => rfl); (case hr => first | (go_simp; done) | (go_simp; rfl)); intro gb285 hg w14 hbox hb; have n0_ := Aside0.mk (blk_below (g := gb284) (o := .cells #[.slice A0_0 l0_0.length c0_0, .slice A0_1 l0_1.length c0_1, .int .i64 a0_2, .int .i64 a0_3, .int .i64 a0_4, .slice A0_5 l0_5.length c0_5, .slice A0_6 l0_6.length c0_6, .int .i64 a0_7, .int .i64 a0_8, .int .i64 a0_9, .slice A0_10 l0_10.length c0_10, .slice A0_11 l0_11.length c0_11, .slice A0_12 l0_12.length c0_12, .int .i64 a0_13, .slice A0_14 l0_14.length c0_14, .slice A0_15 l0_15.length c0_15, .slice A0_16 l0_16.length c0_16, .int .i64 a0_17, .bool a0_18, .bool a0_19] 51 (0, 0)) (by (with_reducible repeat (first | refine blk_drewN ?_ _ | refine blk_drew ?_ | refine blk_alloc ?_ _)); exact BK284.out) hb); have n1_ := Aside0.mk (below_step (by repeat (first | (with_reducible first | exact HB.out | apply below_alloc | apply pw_below_drewN | apply below_drew1 | refine below_set ?_ GE284.out) | exact HB.out)) hb); have n2_ := Aside0.mk (hbox); have n3_ := Aside0.mk ((by rw [hg]; exact (below_size (by repeat (first | (with_reducible first | exact HB.out | apply below_alloc | apply pw_below_drewN | apply below_drew1 | refine below_set ?_ GE284.out) | exact HB.out))) : w.heap.size ≤ gb285)); have n4_ := Aside0.mk ((by rw [hg]; exact (below_size (by repeat (first | (with_reducible first | exact HB.out | apply below_alloc | apply pw_below_drewN | apply below_drew1 | refine below_set ?_ GE284.out) | exact HB.out))) : w.heap.size ≤ gb285)); have n5_ := Aside0.mk ((by rw [hg]; exact Nat.ne_of_lt (blk_lt (g := gb284) (o := .cells #[.slice A0_0 l0_0.length c0_0, .slice A0_1 l0_1.length c0_1, .int .i64 a0_2, .int .i64 a0_3, .int .i64 a0_4, .slice A0_5 l0_5.length c0_5, .slice A0_6 l0_6.length c0_6, .int .i64 a0_7, .int .i64 a0_8, .int .i64 a0_9, .slice A0_10 l0_10.length c0_10, .slice A0_11 l0_11.length c0_11, .slice A0_12 l0_12.length c0_12, .int .i64 a0_13, .slice A0_14 l0_14.length c0_14, .slice A0_15 l0_15.length c0_15, .slice A0_16 l0_16.length c0_16, .int .i64 a0_17, .bool a0_18, .bool a0_19] 51 (0, 0)) (by (with_reducible repeat (first | refine blk_drewN ?_ _ | refine blk_drew ?_ | refine blk_alloc ?_ _)); exact BK284.out)) : gb284 ≠ gb285)); have n6_ := Aside0.mk ((by rw [hg]; exact Nat.ne_of_gt (blk_lt (g := gb284) (o := .cells #[.slice A0_0 l0_0.length c0_0, .slice A0_1 l0_1.length c0_1, .int .i64 a0_2, .int .i64 a0_3, .int .i64 a0_4, .slice A0_5 l0_5.length c0_5, .slice A0_6 l0_6.length c0_6, .int .i64 a0_7, .int .i64 a0_8, .int .i64 a0_9, .slice A0_10 l0_10.length c0_10, .slice A0_11 l0_11.length c0_11, .slice A0_12 l0_12.length c0_12, .int .i64 a0_13, .slice A0_14 l0_14.length c0_14, .slice A0_15 l0_15.length c0_15, .slice A0_16 l0_16.length c0_16, .int .i64 a0_17, .bool a0_18, .bool a0_19] 51 (0, 0)) (by (with_reducible repeat (first | refine blk_drewN ?_ _ | refine blk_drew ?_ | refine blk_alloc ?_ _)); exact BK284.out)) : gb285 ≠ gb284)); clear BK284; clear HB; have BK284 := n0_; have HB := n1_; have BK285 := n2_; have GW285 := n3_; have GE285 := n4_; have NB284_285 := n5_; have NB285_284 := n6_; clear n0_ n1_ n2_ n3_ n4_ n5_ n6_; clear hb hbox hg; have hnb15 := NB284_285.out; have hnc15 := NB285_284.out; have hcz16_0 : w14.cell? ⟨gb284, 0, none⟩ = some (.slice A0_0 l0_0.length c0_0) := (blk_cell BK284.out 0).trans rfl; have hcz16_1 : w14.cell? ⟨gb284, 1, none⟩ = some (.slice A0_1 l0_1.length c0_1) := (blk_cell BK284.out 1).trans rfl; have hcz16_2 : w14.cell? ⟨gb284, 2, none⟩ = some (.int .i64 a0_2) := (blk_cell BK284.out 2).trans rfl; have hcz16_3 : w14.cell? ⟨gb284, 3, none⟩ = some (.int .i64 a0_3) := (blk_cell BK284.out 3).trans rfl; have hcz16_4 : w14.cell? ⟨gb284, 4, none⟩ = some (.int .i64 a0_4) := (blk_cell BK284.out 4).trans rfl; have hcz16_5 : w14.cell? ⟨gb284, 5, none⟩ = some (.slice A0_5 l0_5.length c0_5) := (blk_cell BK284.out 5).trans rfl; have hcz16_6 : w14.cell? ⟨gb284, 6, none⟩ = some (.slice A0_6 l0_6.length c0_6) := (blk_cell BK284.out 6).trans rfl; have hcz16_7 : w14.cell? ⟨gb284, 7, none⟩ = some (.int .i64 a0_7) := (blk_cell BK284.out 7).trans rfl; have hcz16_8 : w14.cell? ⟨gb284, 8, none⟩ = some (.int .i64 a0_8) := (blk_cell BK284.out 8).trans rfl; have hcz16_9 : w14.cell? ⟨gb284, 9, none⟩ = some (.int .i64 a0_9) := (blk_cell BK284.out 9).trans rfl; have hcz16_10 : w14.cell? ⟨gb284, 10, none⟩ = some (.slice A0_10 l0_10.length c0_10) := (blk_cell BK284.out 10).trans rfl; have hcz16_11 : w14.cell? ⟨gb284, 11, none⟩ = some (.slice A0_11 l0_11.length c0_11) := (blk_cell BK284.out 11).trans rfl; have hcz16_12 : w14.cell? ⟨gb284, 12, none⟩ = some (.slice A0_12 l0_12.length c0_12) := (blk_cell BK284.out 12).trans rfl; have hcz16_13 : w14.cell? ⟨gb284, 13, none⟩ = some (.int .i64 a0_13) := (blk_cell BK284.out 13).trans rfl; have hcz16_14 : w14.cell? ⟨gb284, 14, none⟩ = some (.slice A0_14 l0_14.length c0_14) := (blk_cell BK284.out 14).trans rfl; have hcz16_15 : w14.cell? ⟨gb284, 15, none⟩ = some (.slice A0_15 l0_15.length c0_15) := (blk_cell BK284.out 15).trans rfl; have hcz16_16 : w14.cell? ⟨gb284, 16, none⟩ = some (.slice A0_16 l0_16.length c0_16) := (blk_cell BK284.out 16).trans rfl; have hcz16_17 : w14.cell? ⟨gb284, 17, none⟩ = some (.int .i64 a0_17) := (blk_cell BK284.out 17).trans rfl; have hcz16_18 : w14.cell? ⟨gb284, 18, none⟩ = some (.bool a0_18) := (blk_cell BK284.out 18).trans rfl; have hcz16_19 : w14.cell? ⟨gb284, 19, none⟩ = some (.bool a0_19) := (blk_cell BK284.out 19).trans rfl; have hfz16_0 := blk_frozen BK284.out 0; have hfz16_1 := blk_frozen BK284.out 1; have hfz16_2 := blk_frozen BK284.out 2; have hfz16_3 := blk_frozen BK284.out 3; have hfz16_4 := blk_frozen BK284.out 4; have hfz16_5 := blk_frozen BK284.out 5; have hfz16_6 := blk_frozen BK284.out 6; have hfz16_7 := blk_frozen BK284.out 7; have hfz16_8 := blk_frozen BK284.out 8; have hfz16_9 := blk_frozen BK284.out 9; have hfz16_10 := blk_frozen BK284.out 10; have hfz16_11 := blk_frozen BK284.out 11; have hfz16_12 := blk_frozen BK284.out 12; have hfz16_13 := blk_frozen BK284.out 13; have hfz16_14 := blk_frozen BK284.out 14; have hfz16_15 := blk_frozen BK284.out 15; have hfz16_16 := blk_frozen BK284.out 16; have hfz16_17 := blk_frozen BK284.out 17; have hfz16_18 := blk_frozen BK284.out 18; have hfz16_19 := blk_frozen BK284.out 19; have hcz17_0 : w14.cell? ⟨gb285, 0, none⟩ = some (.slice A1_0 l1_0.length c1_0) := (blk_cell BK285.out 0).trans rfl; have hcz17_1 : w14.cell? ⟨gb285, 1, none⟩ = some (.slice A1_1 l1_1.length c1_1) := (blk_cell BK285.out 1).trans rfl; have hcz17_2 : w14.cell? ⟨gb285, 2, none⟩ = some (.int .i64 a1_2) := (blk_cell BK285.out 2).trans rfl; have hcz17_3 : w14.cell? ⟨gb285, 3, none⟩ = some (.int .i64 a1_3) := (blk_cell BK285.out 3).trans rfl; have hcz17_4 : w14.cell? ⟨gb285, 4, none⟩ = some (.int .i64 a1_4) := (blk_cell BK285.out 4).trans rfl; have hcz17_5 : w14.cell? ⟨gb285, 5, none⟩ = some (.slice A1_5 l1_5.length c1_5) := (blk_cell BK285.out 5).trans rfl; have hcz17_6 : w14.cell? ⟨gb285, 6, none⟩ = some (.slice A1_6 l1_6.length c1_6) := (blk_cell BK285.out 6).trans rfl; have hcz17_7 : w14.cell? ⟨gb285, 7, none⟩ = some (.int .i64 a1_7) := (blk_cell BK285.out 7).trans rfl; have hcz17_8 : w14.cell? ⟨gb285, 8, none⟩ = some (.int .i64 a1_8) := (blk_cell BK285.out 8).trans rfl; have hcz17_9 : w14.cell? ⟨gb285, 9, none⟩ = some (.int .i64 a1_9) := (blk_cell BK285.out 9).trans rfl; have hcz17_10 : w14.cell? ⟨gb285, 10, none⟩ = some (.slice A1_10 l1_10.length c1_10) := (blk_cell BK285.out 10).trans rfl; have hcz17_11 : w14.cell? ⟨gb285, 11, none⟩ = some (.slice A1_11 l1_11.length c1_11) := (blk_cell BK285.out 11).trans rfl; have hcz17_12 : w14.cell? ⟨gb285, 12, none⟩ = some (.slice A1_12 l1_12.length c1_12) := (blk_cell BK285.out 12).trans rfl; have hcz17_13 : w14.cell? ⟨gb285, 13, none⟩ = some (.int .i64 a1_13) := (blk_cell BK285.out 13).trans rfl; have hcz17_14 : w14.cell? ⟨gb285, 14, none⟩ = some (.slice A1_14 l1_14.length c1_14) := (blk_cell BK285.out 14).trans rfl; have hcz17_15 : w14.cell? ⟨gb285, 15, none⟩ = some (.slice A1_15 l1_15.length c1_15) := (blk_cell BK285.out 15).trans rfl; have hcz17_16 : w14.cell? ⟨gb285, 16, none⟩ = some (.slice A1_16 l1_16.length c1_16) := (blk_cell BK285.out 16).trans rfl; have hcz17_17 : w14.cell? ⟨gb285, 17, none⟩ = some (.int .i64 a1_17) := (blk_cell BK285.out 17).trans rfl; have hcz17_18 : w14.cell? ⟨gb285, 18, none⟩ = some (.bool a1_18) := (blk_cell BK285.out 18).trans rfl; have hcz17_19 : w14.cell? ⟨gb285, 19, none⟩ = some (.bool a1_19) := (blk_cell BK285.out 19).trans rfl; have hfz17_0 := blk_frozen BK285.out 0; have hfz17_1 := blk_frozen BK285.out 1; have hfz17_2 := blk_frozen BK285.out 2; have hfz17_3 := blk_frozen BK285.out 3; have hfz17_4 := blk_frozen BK285.out 4; have hfz17_5 := blk_frozen BK285.out 5; have hfz17_6 := blk_frozen BK285.out 6; have hfz17_7 := blk_frozen BK285.out 7; have hfz17_8 := blk_frozen BK285.out 8; have hfz17_9 := blk_frozen BK285.out 9; have hfz17_10 := blk_frozen BK285.out 10; have hfz17_11 := blk_frozen BK285.out 11; have hfz17_12 := blk_frozen BK285.out 12; have hfz17_13 := blk_frozen BK285.out 13; have hfz17_14 := blk_frozen BK285.out 14; have hfz17_15 := blk_frozen BK285.out 15; have hfz17_16 := blk_frozen BK285.out 16; have hfz17_17 := blk_frozen BK285.out 17; have hfz17_18 := blk_frozen BK285.out 18; have hfz17_19 := blk_frozen BK285.out 19) | ((with_reducible refine gate_callee (f := 40) rfl ?_); refine goesL_ (some 9) rfl rfl Try.func40 (by kernel_rfl) rfl #[.agg #[.slice A0_0 l0_0.length c0_0, .slice A0_1 l0_1.length c0_1], .agg #[.slice A1_0 l1_0.length c1_0, .slice A1_1 l1_1.length c1_1]] rfl (by (try simp only [List.map_toArray, List.map_cons, List.map_nil]); first | done | rfl | (simp only [List.length_drop, List.length_take]; rfl)) ?_; (with_reducible refine (laws_eqDisk.calls k _ _ l0_0 _ _ l0_1 _ _ l1_0 _ _ l1_1 true _ ?side1 ?side2 ?side3 ?side4 ?side5 ?side6 ?side7 ?side8 A3.out).mono ?_); (case side1 => repeat (first | exact (Kd.C_below HR0_0.out HB.out) | (with_reducible refine Kd.C_alloc ?_ _) | (with_reducible refine Kd.C_drewN ?_ _) | (with_reducible refine Kd.C_drew ?_))); (case side2 => exact HC0_0.out); (case side3 => repeat (first | exact (Kd.C_below HR0_1.out HB.out) | (with_reducible refine Kd.C_alloc ?_ _) | (with_reducible refine Kd.C_drewN ?_ _) | (with_reducible refine Kd.C_drew ?_))); (case side4 => exact HC0_1.out); (case side5 => repeat (first | exact (Kd.C_below HR1_0.out HB.out) | (with_reducible refine Kd.C_alloc ?_ _) | (with_reducible refine Kd.C_drewN ?_ _) | (with_reducible refine Kd.C_drew ?_))); (case side6 => exact HC1_0.out); (case side7 => repeat (first | exact (Kd.C_below HR1_1.out HB.out) | (with_reducible refine Kd.C_alloc ?_ _) | (with_reducible refine Kd.C_drewN ?_ _) | (with_reducible refine Kd.C_drew ?_))); (case side8 => exact HC1_1.out); rintro e w18 ⟨rfl, hb⟩; refine ⟨_, rfl, ?_⟩; have n0_ := Aside0.mk (blk_below (g := gb284) (o := .cells #[.slice A0_0 l0_0.length c0_0, .slice A0_1 l0_1.length c0_1, .int .i64 a0_2, .int .i64 a0_3, .int .i64 a0_4, .slice A0_5 l0_5.length c0_5, .slice A0_6 l0_6.length c0_6, .int .i64 a0_7, .int .i64 a0_8, .int .i64 a0_9, .slice A0_10 l0_10.length c0_10, .slice A0_11 l0_11.length c0_11, .slice A0_12 l0_12.length c0_12, .int .i64 a0_13, .slice A0_14 l0_14.length c0_14, .slice A0_15 l0_15.length c0_15, .slice A0_16 l0_16.length c0_16, .int .i64 a0_17, .bool a0_18, .bool a0_19] 51 (0, 0)) (by (with_reducible repeat (first | refine blk_drewN ?_ _ | refine blk_drew ?_ | refine blk_alloc ?_ _)); exact BK284.out) hb); have n1_ := Aside0.mk (blk_below (g := gb285) (o := .cells #[.slice A1_0 l1_0.length c1_0, .slice A1_1 l1_1.length c1_1, .int .i64 a1_2, .int .i64 a1_3, .int .i64 a1_4, .slice A1_5 l1_5.length c1_5, .slice A1_6 l1_6.length c1_6, .int .i64 a1_7, .int .i64 a1_8, .int .i64 a1_9, .slice A1_10 l1_10.length c1_10, .slice A1_11 l1_11.length c1_11, .slice A1_12 l1_12.length c1_12, .int .i64 a1_13, .slice A1_14 l1_14.length c1_14, .slice A1_15 l1_15.length c1_15, .slice A1_16 l1_16.length c1_16, .int .i64 a1_17, .bool a1_18, .bool a1_19] 51 (0, 0)) (by (with_reducible repeat (first | refine blk_drewN ?_ _ | refine blk_drew ?_ | refine blk_alloc ?_ _)); exact BK285.out) hb); have n2_ := Aside0.mk (below_step (by repeat (first | (with_reducible first | exact HB.out | apply below_alloc | apply pw_below_drewN | apply below_drew1 | refine below_set ?_ GE284.out | refine below_set ?_ GE285.out) | exact HB.out)) hb); clear BK284; clear BK285; clear HB; have BK284 := n0_; have BK285 := n1_; have HB := n2_; clear n0_ n1_ n2_; (try clear hb); (try clear hb2); (try clear hk); (try clear hi); have hcz19_0 : w18.cell? ⟨gb284, 0, none⟩ = some (.slice A0_0 l0_0.length c0_0) := (blk_cell BK284.out 0).trans rfl; have hcz19_1 : w18.cell? ⟨gb284, 1, none⟩ = some (.slice A0_1 l0_1.length c0_1) := (blk_cell BK284.out 1).trans rfl; have hcz19_2 : w18.cell? ⟨gb284, 2, none⟩ = some (.int .i64 a0_2) := (blk_cell BK284.out 2).trans rfl; have hcz19_3 : w18.cell? ⟨gb284, 3, none⟩ = some (.int .i64 a0_3) := (blk_cell BK284.out 3).trans rfl; have hcz19_4 : w18.cell? ⟨gb284, 4, none⟩ = some (.int .i64 a0_4) := (blk_cell BK284.out 4).trans rfl; have hcz19_5 : w18.cell? ⟨gb284, 5, none⟩ = some (.slice A0_5 l0_5.length c0_5) := (blk_cell BK284.out 5).trans rfl; have hcz19_6 : w18.cell? ⟨gb284, 6, none⟩ = some (.slice A0_6 l0_6.length c0_6) := (blk_cell BK284.out 6).trans rfl; have hcz19_7 : w18.cell? ⟨gb284, 7, none⟩ = some (.int .i64 a0_7) := (blk_cell BK284.out 7).trans rfl; have hcz19_8 : w18.cell? ⟨gb284, 8, none⟩ = some (.int .i64 a0_8) := (blk_cell BK284.out 8).trans rfl; have hcz19_9 : w18.cell? ⟨gb284, 9, none⟩ = some (.int .i64 a0_9) := (blk_cell BK284.out 9).trans rfl; have hcz19_10 : w18.cell? ⟨gb284, 10, none⟩ = some (.slice A0_10 l0_10.length c0_10) := (blk_cell BK284.out 10).trans rfl; have hcz19_11 : w18.cell? ⟨gb284, 11, none⟩ = some (.slice A0_11 l0_11.length c0_11) := (blk_cell BK284.out 11).trans rfl; have hcz19_12 : w18.cell? ⟨gb284, 12, none⟩ = some (.slice A0_12 l0_12.length c0_12) := (blk_cell BK284.out 12).trans rfl; have hcz19_13 : w18.cell? ⟨gb284, 13, none⟩ = some (.int .i64 a0_13) := (blk_cell BK284.out 13).trans rfl; have hcz19_14 : w18.cell? ⟨gb284, 14, none⟩ = some (.slice A0_14 l0_14.length c0_14) := (blk_cell BK284.out 14).trans rfl; have hcz19_15 : w18.cell? ⟨gb284, 15, none⟩ = some (.slice A0_15 l0_15.length c0_15) := (blk_cell BK284.out 15).trans rfl; have hcz19_16 : w18.cell? ⟨gb284, 16, none⟩ = some (.slice A0_16 l0_16.length c0_16) := (blk_cell BK284.out 16).trans rfl; have hcz19_17 : w18.cell? ⟨gb284, 17, none⟩ = some (.int .i64 a0_17) := (blk_cell BK284.out 17).trans rfl; have hcz19_18 : w18.cell? ⟨gb284, 18, none⟩ = some (.bool a0_18) := (blk_cell BK284.out 18).trans rfl; have hcz19_19 : w18.cell? ⟨gb284, 19, none⟩ = some (.bool a0_19) := (blk_cell BK284.out 19).trans rfl; have hfz19_0 := blk_frozen BK284.out 0; have hfz19_1 := blk_frozen BK284.out 1; have hfz19_2 := blk_frozen BK284.out 2; have hfz19_3 := blk_frozen BK284.out 3; have hfz19_4 := blk_frozen BK284.out 4; have hfz19_5 := blk_frozen BK284.out 5; have hfz19_6 := blk_frozen BK284.out 6; have hfz19_7 := blk_frozen BK284.out 7; have hfz19_8 := blk_frozen BK284.out 8; have hfz19_9 := blk_frozen BK284.out 9; have hfz19_10 := blk_frozen BK284.out 10; have hfz19_11 := blk_frozen BK284.out 11; have hfz19_12 := blk_frozen BK284.out 12; have hfz19_13 := blk_frozen BK284.out 13; have hfz19_14 := blk_frozen BK284.out 14; have hfz19_15 := blk_frozen BK284.out 15; have hfz19_16 := blk_frozen BK284.out 16; have hfz19_17 := blk_frozen BK284.out 17; have hfz19_18 := blk_frozen BK284.out 18; have hfz19_19 := blk_frozen BK284.out 19; have hcz20_0 : w18.cell? ⟨gb285, 0, none⟩ = some (.slice A1_0 l1_0.length c1_0) := (blk_cell BK285.out 0).trans rfl; have hcz20_1 : w18.cell? ⟨gb285, 1, none⟩ = some (.slice A1_1 l1_1.length c1_1) := (blk_cell BK285.out 1).trans rfl; have hcz20_2 : w18.cell? ⟨gb285, 2, none⟩ = some (.int .i64 a1_2) := (blk_cell BK285.out 2).trans rfl; have hcz20_3 : w18.cell? ⟨gb285, 3, none⟩ = some (.int .i64 a1_3) := (blk_cell BK285.out 3).trans rfl; have hcz20_4 : w18.cell? ⟨gb285, 4, none⟩ = some (.int .i64 a1_4) := (blk_cell BK285.out 4).trans rfl; have hcz20_5 : w18.cell? ⟨gb285, 5, none⟩ = some (.slice A1_5 l1_5.length c1_5) := (blk_cell BK285.out 5).trans rfl; have hcz20_6 : w18.cell? ⟨gb285, 6, none⟩ = some (.slice A1_6 l1_6.length c1_6) := (blk_cell BK285.out 6).trans rfl; have hcz20_7 : w18.cell? ⟨gb285, 7, none⟩ = some (.int .i64 a1_7) := (blk_cell BK285.out 7).trans rfl; have hcz20_8 : w18.cell? ⟨gb285, 8, none⟩ = some (.int .i64 a1_8) := (blk_cell BK285.out 8).trans rfl; have hcz20_9 : w18.cell? ⟨gb285, 9, none⟩ = some (.int .i64 a1_9) := (blk_cell BK285.out 9).trans rfl; have hcz20_10 : w18.cell? ⟨gb285, 10, none⟩ = some (.slice A1_10 l1_10.length c1_10) := (blk_cell BK285.out 10).trans rfl; have hcz20_11 : w18.cell? ⟨gb285, 11, none⟩ = some (.slice A1_11 l1_11.length c1_11) := (blk_cell BK285.out 11).trans rfl; have hcz20_12 : w18.cell? ⟨gb285, 12, none⟩ = some (.slice A1_12 l1_12.length c1_12) := (blk_cell BK285.out 12).trans rfl; have hcz20_13 : w18.cell? ⟨gb285, 13, none⟩ = some (.int .i64 a1_13) := (blk_cell BK285.out 13).trans rfl; have hcz20_14 : w18.cell? ⟨gb285, 14, none⟩ = some (.slice A1_14 l1_14.length c1_14) := (blk_cell BK285.out 14).trans rfl; have hcz20_15 : w18.cell? ⟨gb285, 15, none⟩ = some (.slice A1_15 l1_15.length c1_15) := (blk_cell BK285.out 15).trans rfl; have hcz20_16 : w18.cell? ⟨gb285, 16, none⟩ = some (.slice A1_16 l1_16.length c1_16) := (blk_cell BK285.out 16).trans rfl; have hcz20_17 : w18.cell? ⟨gb285, 17, none⟩ = some (.int .i64 a1_17) := (blk_cell BK285.out 17).trans rfl; have hcz20_18 : w18.cell? ⟨gb285, 18, none⟩ = some (.bool a1_18) := (blk_cell BK285.out 18).trans rfl; have hcz20_19 : w18.cell? ⟨gb285, 19, none⟩ = some (.bool a1_19) := (blk_cell BK285.out 19).trans rfl; have hfz20_0 := blk_frozen BK285.out 0; have hfz20_1 := blk_frozen BK285.out 1; have hfz20_2 := blk_frozen BK285.out 2; have hfz20_3 := blk_frozen BK285.out 3; have hfz20_4 := blk_frozen BK285.out 4; have hfz20_5 := blk_frozen BK285.out 5; have hfz20_6 := blk_frozen BK285.out 6; have hfz20_7 := blk_frozen BK285.out 7; have hfz20_8 := blk_frozen BK285.out 8; have hfz20_9 := blk_frozen BK285.out 9; have hfz20_10 := blk_frozen BK285.out 10; have hfz20_11 := blk_frozen BK285.out 11; have hfz20_12 := blk_frozen BK285.out 12; have hfz20_13 := blk_frozen BK285.out 13; have hfz20_14 := blk_frozen BK285.out 14; have hfz20_15 := blk_frozen BK285.out 15; have hfz20_16 := blk_frozen BK285.out 16; have hfz20_17 := blk_frozen BK285.out 17; have hfz20_18 := blk_frozen BK285.out 18; have hfz20_19 := blk_frozen BK285.out 19) | ((with_reducible refine gate_callee (f := 58) rfl ?_); refine goesL_ (some 15) rfl rfl Try.func58 (by kernel_rfl) rfl #[.agg #[.int .i64 a0_2, .int .i64 a0_3, .int .i64 a0_4, .slice A0_5 l0_5.length c0_5], .agg #[.int .i64 a1_2, .int .i64 a1_3, .int .i64 a1_4, .slice A1_5 l1_5.length c1_5]] rfl (by (try simp only [List.map_toArray, List.map_cons, List.map_nil]); first | done | rfl | (simp only [List.length_drop, List.length_take]; rfl)) ?_; (with_reducible refine (laws_eqMeta.calls k a0_2 a0_3 a0_4 _ _ l0_5 a1_2 a1_3 a1_4 _ _ l1_5 true _ ?side1 ?side2 ?side3 ?side4 A5.out).mono ?_); (case side1 => repeat (first | exact (Kd.C_below HR0_5.out HB.out) | (with_reducible refine Kd.C_alloc ?_ _) | (with_reducible refine Kd.C_drewN ?_ _) | (with_reducible refine Kd.C_drew ?_))); (case side2 => exact HC0_5.out); (case side3 => repeat (first | exact (Kd.C_below HR1_5.out HB.out) | (with_reducible refine Kd.C_alloc ?_ _) | (with_reducible refine Kd.C_drewN ?_ _) | (with_reducible refine Kd.C_drew ?_))); (case side4 => exact HC1_5.out); rintro e w21 ⟨rfl, hb⟩; refine ⟨_, rfl, ?_⟩; have n0_ := Aside0.mk (blk_below (g := gb284) (o := .cells #[.slice A0_0 l0_0.length c0_0, .slice A0_1 l0_1.length c0_1, .int .i64 a0_2, .int .i64 a0_3, .int .i64 a0_4, .slice A0_5 l0_5.length c0_5, .slice A0_6 l0_6.length c0_6, .int .i64 a0_7, .int .i64 a0_8, .int .i64 a0_9, .slice A0_10 l0_10.length c0_10, .slice A0_11 l0_11.length c0_11, .slice A0_12 l0_12.length c0_12, .int .i64 a0_13, .slice A0_14 l0_14.length c0_14, .slice A0_15 l0_15.length c0_15, .slice A0_16 l0_16.length c0_16, .int .i64 a0_17, .bool a0_18, .bool a0_19] 51 (0, 0)) (by (with_reducible repeat (first | refine blk_drewN ?_ _ | refine blk_drew ?_ | refine blk_alloc ?_ _)); exact BK284.out) hb); have n1_ := Aside0.mk (blk_below (g := gb285) (o := .cells #[.slice A1_0 l1_0.length c1_0, .slice A1_1 l1_1.length c1_1, .int .i64 a1_2, .int .i64 a1_3, .int .i64 a1_4, .slice A1_5 l1_5.length c1_5, .slice A1_6 l1_6.length c1_6, .int .i64 a1_7, .int .i64 a1_8, .int .i64 a1_9, .slice A1_10 l1_10.length c1_10, .slice A1_11 l1_11.length c1_11, .slice A1_12 l1_12.length c1_12, .int .i64 a1_13, .slice A1_14 l1_14.length c1_14, .slice A1_15 l1_15.length c1_15, .slice A1_16 l1_16.length c1_16, .int .i64 a1_17, .bool a1_18, .bool a1_19] 51 (0, 0)) (by (with_reducible repeat (first | refine blk_drewN ?_ _ | refine blk_drew ?_ | refine blk_alloc ?_ _)); exact BK285.out) hb); have n2_ := Aside0.mk (below_step (by repeat (first | (with_reducible first | exact HB.out | apply below_alloc | apply pw_below_drewN | apply below_drew1 | refine below_set ?_ GE284.out | refine below_set ?_ GE285.out) | exact HB.out)) hb); clear BK284; clear BK285; clear HB; have BK284 := n0_; have BK285 := n1_; have HB := n2_; clear n0_ n1_ n2_; (try clear hb); (try clear hb2); (try clear hk); (try clear hi); have hcz22_0 : w21.cell? ⟨gb284, 0, none⟩ = some (.slice A0_0 l0_0.length c0_0) := (blk_cell BK284.out 0).trans rfl; have hcz22_1 : w21.cell? ⟨gb284, 1, none⟩ = some (.slice A0_1 l0_1.length c0_1) := (blk_cell BK284.out 1).trans rfl; have hcz22_2 : w21.cell? ⟨gb284, 2, none⟩ = some (.int .i64 a0_2) := (blk_cell BK284.out 2).trans rfl; have hcz22_3 : w21.cell? ⟨gb284, 3, none⟩ = some (.int .i64 a0_3) := (blk_cell BK284.out 3).trans rfl; have hcz22_4 : w21.cell? ⟨gb284, 4, none⟩ = some (.int .i64 a0_4) := (blk_cell BK284.out 4).trans rfl; have hcz22_5 : w21.cell? ⟨gb284, 5, none⟩ = some (.slice A0_5 l0_5.length c0_5) := (blk_cell BK284.out 5).trans rfl; have hcz22_6 : w21.cell? ⟨gb284, 6, none⟩ = some (.slice A0_6 l0_6.length c0_6) := (blk_cell BK284.out 6).trans rfl; have hcz22_7 : w21.cell? ⟨gb284, 7, none⟩ = some (.int .i64 a0_7) := (blk_cell BK284.out 7).trans rfl; have hcz22_8 : w21.cell? ⟨gb284, 8, none⟩ = some (.int .i64 a0_8) := (blk_cell BK284.out 8).trans rfl; have hcz22_9 : w21.cell? ⟨gb284, 9, none⟩ = some (.int .i64 a0_9) := (blk_cell BK284.out 9).trans rfl; have hcz22_10 : w21.cell? ⟨gb284, 10, none⟩ = some (.slice A0_10 l0_10.length c0_10) := (blk_cell BK284.out 10).trans rfl; have hcz22_11 : w21.cell? ⟨gb284, 11, none⟩ = some (.slice A0_11 l0_11.length c0_11) := (blk_cell BK284.out 11).trans rfl; have hcz22_12 : w21.cell? ⟨gb284, 12, none⟩ = some (.slice A0_12 l0_12.length c0_12) := (blk_cell BK284.out 12).trans rfl; have hcz22_13 : w21.cell? ⟨gb284, 13, none⟩ = some (.int .i64 a0_13) := (blk_cell BK284.out 13).trans rfl; have hcz22_14 : w21.cell? ⟨gb284, 14, none⟩ = some (.slice A0_14 l0_14.length c0_14) := (blk_cell BK284.out 14).trans rfl; have hcz22_15 : w21.cell? ⟨gb284, 15, none⟩ = some (.slice A0_15 l0_15.length c0_15) := (blk_cell BK284.out 15).trans rfl; have hcz22_16 : w21.cell? ⟨gb284, 16, none⟩ = some (.slice A0_16 l0_16.length c0_16) := (blk_cell BK284.out 16).trans rfl; have hcz22_17 : w21.cell? ⟨gb284, 17, none⟩ = some (.int .i64 a0_17) := (blk_cell BK284.out 17).trans rfl; have hcz22_18 : w21.cell? ⟨gb284, 18, none⟩ = some (.bool a0_18) := (blk_cell BK284.out 18).trans rfl; have hcz22_19 : w21.cell? ⟨gb284, 19, none⟩ = some (.bool a0_19) := (blk_cell BK284.out 19).trans rfl; have hfz22_0 := blk_frozen BK284.out 0; have hfz22_1 := blk_frozen BK284.out 1; have hfz22_2 := blk_frozen BK284.out 2; have hfz22_3 := blk_frozen BK284.out 3; have hfz22_4 := blk_frozen BK284.out 4; have hfz22_5 := blk_frozen BK284.out 5; have hfz22_6 := blk_frozen BK284.out 6; have hfz22_7 := blk_frozen BK284.out 7; have hfz22_8 := blk_frozen BK284.out 8; have hfz22_9 := blk_frozen BK284.out 9; have hfz22_10 := blk_frozen BK284.out 10; have hfz22_11 := blk_frozen BK284.out 11; have hfz22_12 := blk_frozen BK284.out 12; have hfz22_13 := blk_frozen BK284.out 13; have hfz22_14 := blk_frozen BK284.out 14; have hfz22_15 := blk_frozen BK284.out 15; have hfz22_16 := blk_frozen BK284.out 16; have hfz22_17 := blk_frozen BK284.out 17; have hfz22_18 := blk_frozen BK284.out 18; have hfz22_19 := blk_frozen BK284.out 19; have hcz23_0 : w21.cell? ⟨gb285, 0, none⟩ = some (.slice A1_0 l1_0.length c1_0) := (blk_cell BK285.out 0).trans rfl; have hcz23_1 : w21.cell? ⟨gb285, 1, none⟩ = some (.slice A1_1 l1_1.length c1_1) := (blk_cell BK285.out 1).trans rfl; have hcz23_2 : w21.cell? ⟨gb285, 2, none⟩ = some (.int .i64 a1_2) := (blk_cell BK285.out 2).trans rfl; have hcz23_3 : w21.cell? ⟨gb285, 3, none⟩ = some (.int .i64 a1_3) := (blk_cell BK285.out 3).trans rfl; have hcz23_4 : w21.cell? ⟨gb285, 4, none⟩ = some (.int .i64 a1_4) := (blk_cell BK285.out 4).trans rfl; have hcz23_5 : w21.cell? ⟨gb285, 5, none⟩ = some (.slice A1_5 l1_5.length c1_5) := (blk_cell BK285.out 5).trans rfl; have hcz23_6 : w21.cell? ⟨gb285, 6, none⟩ = some (.slice A1_6 l1_6.length c1_6) := (blk_cell BK285.out 6).trans rfl; have hcz23_7 : w21.cell? ⟨gb285, 7, none⟩ = some (.int .i64 a1_7) := (blk_cell BK285.out 7).trans rfl; have hcz23_8 : w21.cell? ⟨gb285, 8, none⟩ = some (.int .i64 a1_8) := (blk_cell BK285.out 8).trans rfl; have hcz23_9 : w21.cell? ⟨gb285, 9, none⟩ = some (.int .i64 a1_9) := (blk_cell BK285.out 9).trans rfl; have hcz23_10 : w21.cell? ⟨gb285, 10, none⟩ = some (.slice A1_10 l1_10.length c1_10) := (blk_cell BK285.out 10).trans rfl; have hcz23_11 : w21.cell? ⟨gb285, 11, none⟩ = some (.slice A1_11 l1_11.length c1_11) := (blk_cell BK285.out 11).trans rfl; have hcz23_12 : w21.cell? ⟨gb285, 12, none⟩ = some (.slice A1_12 l1_12.length c1_12) := (blk_cell BK285.out 12).trans rfl; have hcz23_13 : w21.cell? ⟨gb285, 13, none⟩ = some (.int .i64 a1_13) := (blk_cell BK285.out 13).trans rfl; have hcz23_14 : w21.cell? ⟨gb285, 14, none⟩ = some (.slice A1_14 l1_14.length c1_14) := (blk_cell BK285.out 14).trans rfl; have hcz23_15 : w21.cell? ⟨gb285, 15, none⟩ = some (.slice A1_15 l1_15.length c1_15) := (blk_cell BK285.out 15).trans rfl; have hcz23_16 : w21.cell? ⟨gb285, 16, none⟩ = some (.slice A1_16 l1_16.length c1_16) := (blk_cell BK285.out 16).trans rfl; have hcz23_17 : w21.cell? ⟨gb285, 17, none⟩ = some (.int .i64 a1_17) := (blk_cell BK285.out 17).trans rfl; have hcz23_18 : w21.cell? ⟨gb285, 18, none⟩ = some (.bool a1_18) := (blk_cell BK285.out 18).trans rfl; have hcz23_19 : w21.cell? ⟨gb285, 19, none⟩ = some (.bool a1_19) := (blk_cell BK285.out 19).trans rfl; have hfz23_0 := blk_frozen BK285.out 0; have hfz23_1 := blk_frozen BK285.out 1; have hfz23_2 := blk_frozen BK285.out 2; have hfz23_3 := blk_frozen BK285.out 3; have hfz23_4 := blk_frozen BK285.out 4; have hfz23_5 := blk_frozen BK285.out 5; have hfz23_6 := blk_frozen BK285.out 6; have hfz23_7 := blk_frozen BK285.out 7; have hfz23_8 := blk_frozen BK285.out 8; have hfz23_9 := blk_frozen BK285.out 9; have hfz23_10 := blk_frozen BK285.out 10; have hfz23_11 := blk_frozen BK285.out 11; have hfz23_12 := blk_frozen BK285.out 12; have hfz23_13 := blk_frozen BK285.out 13; have hfz23_14 := blk_frozen BK285.out 14; have hfz23_15 := blk_frozen BK285.out 15; have hfz23_16 := blk_frozen BK285.out 16; have hfz23_17 := blk_frozen BK285.out 17; have hfz23_18 := blk_frozen BK285.out 18; have hfz23_19 := blk_frozen BK285.out 19) | ((with_reducible refine gate_callee (f := 63) rfl ?_); refine goesL_ (some 21) rfl rfl Try.func63 (by kernel_rfl) rfl #[.slice A0_6 l0_6.length c0_6, .slice A1_6 l1_6.length c1_6] rfl (by (try simp only [List.map_toArray, List.map_cons, List.map_nil]); first | done | rfl | (simp only [List.length_drop, List.length_take]; rfl)) ?_; (with_reducible refine (laws_eqReaderS.calls k _ _ l0_6 _ _ l1_6 true _ ?side1 ?side2 ?side3 ?side4 A7.out).mono ?_); (case side1 => repeat (first | exact (Kd.C_below HR0_6.out HB.out) | (with_reducible refine Kd.C_alloc ?_ _) | (with_reducible refine Kd.C_drewN ?_ _) | (with_reducible refine Kd.C_drew ?_))); (case side2 => exact HC0_6.out); (case side3 => repeat (first | exact (Kd.C_below HR1_6.out HB.out) | (with_reducible refine Kd.C_alloc ?_ _) | (with_reducible refine Kd.C_drewN ?_ _) | (with_reducible refine Kd.C_drew ?_))); (case side4 => exact HC1_6.out); rintro e w24 ⟨rfl, hb⟩; refine ⟨_, rfl, ?_⟩; have n0_ := Aside0.mk (blk_below (g := gb284) (o := .cells #[.slice A0_0 l0_0.length c0_0, .slice A0_1 l0_1.length c0_1, .int .i64 a0_2, .int .i64 a0_3, .int .i64 a0_4, .slice A0_5 l0_5.length c0_5, .slice A0_6 l0_6.length c0_6, .int .i64 a0_7, .int .i64 a0_8, .int .i64 a0_9, .slice A0_10 l0_10.length c0_10, .slice A0_11 l0_11.length c0_11, .slice A0_12 l0_12.length c0_12, .int .i64 a0_13, .slice A0_14 l0_14.length c0_14, .slice A0_15 l0_15.length c0_15, .slice A0_16 l0_16.length c0_16, .int .i64 a0_17, .bool a0_18, .bool a0_19] 51 (0, 0)) (by (with_reducible repeat (first | refine blk_drewN ?_ _ | refine blk_drew ?_ | refine blk_alloc ?_ _)); exact BK284.out) hb); have n1_ := Aside0.mk (blk_below (g := gb285) (o := .cells #[.slice A1_0 l1_0.length c1_0, .slice A1_1 l1_1.length c1_1, .int .i64 a1_2, .int .i64 a1_3, .int .i64 a1_4, .slice A1_5 l1_5.length c1_5, .slice A1_6 l1_6.length c1_6, .int .i64 a1_7, .int .i64 a1_8, .int .i64 a1_9, .slice A1_10 l1_10.length c1_10, .slice A1_11 l1_11.length c1_11, .slice A1_12 l1_12.length c1_12, .int .i64 a1_13, .slice A1_14 l1_14.length c1_14, .slice A1_15 l1_15.length c1_15, .slice A1_16 l1_16.length c1_16, .int .i64 a1_17, .bool a1_18, .bool a1_19] 51 (0, 0)) (by (with_reducible repeat (first | refine blk_drewN ?_ _ | refine blk_drew ?_ | refine blk_alloc ?_ _)); exact BK285.out) hb); have n2_ := Aside0.mk (below_step (by repeat (first | (with_reducible first | exact HB.out | apply below_alloc | apply pw_below_drewN | apply below_drew1 | refine below_set ?_ GE284.out | refine below_set ?_ GE285.out) | exact HB.out)) hb); clear BK284; clear BK285; clear HB; have BK284 := n0_; have BK285 := n1_; have HB := n2_; clear n0_ n1_ n2_; (try clear hb); (try clear hb2); (try clear hk); (try clear hi); have hcz25_0 : w24.cell? ⟨gb284, 0, none⟩ = some (.slice A0_0 l0_0.length c0_0) := (blk_cell BK284.out 0).trans rfl; have hcz25_1 : w24.cell? ⟨gb284, 1, none⟩ = some (.slice A0_1 l0_1.length c0_1) := (blk_cell BK284.out 1).trans rfl; have hcz25_2 : w24.cell? ⟨gb284, 2, none⟩ = some (.int .i64 a0_2) := (blk_cell BK284.out 2).trans rfl; have hcz25_3 : w24.cell? ⟨gb284, 3, none⟩ = some (.int .i64 a0_3) := (blk_cell BK284.out 3).trans rfl; have hcz25_4 : w24.cell? ⟨gb284, 4, none⟩ = some (.int .i64 a0_4) := (blk_cell BK284.out 4).trans rfl; have hcz25_5 : w24.cell? ⟨gb284, 5, none⟩ = some (.slice A0_5 l0_5.length c0_5) := (blk_cell BK284.out 5).trans rfl; have hcz25_6 : w24.cell? ⟨gb284, 6, none⟩ = some (.slice A0_6 l0_6.length c0_6) := (blk_cell BK284.out 6).trans rfl; have hcz25_7 : w24.cell? ⟨gb284, 7, none⟩ = some (.int .i64 a0_7) := (blk_cell BK284.out 7).trans rfl; have hcz25_8 : w24.cell? ⟨gb284, 8, none⟩ = some (.int .i64 a0_8) := (blk_cell BK284.out 8).trans rfl; have hcz25_9 : w24.cell? ⟨gb284, 9, none⟩ = some (.int .i64 a0_9) := (blk_cell BK284.out 9).trans rfl; have hcz25_10 : w24.cell? ⟨gb284, 10, none⟩ = some (.slice A0_10 l0_10.length c0_10) := (blk_cell BK284.out 10).trans rfl; have hcz25_11 : w24.cell? ⟨gb284, 11, none⟩ = some (.slice A0_11 l0_11.length c0_11) := (blk_cell BK284.out 11).trans rfl; have hcz25_12 : w24.cell? ⟨gb284, 12, none⟩ = some (.slice A0_12 l0_12.length c0_12) := (blk_cell BK284.out 12).trans rfl; have hcz25_13 : w24.cell? ⟨gb284, 13, none⟩ = some (.int .i64 a0_13) := (blk_cell BK284.out 13).trans rfl; have hcz25_14 : w24.cell? ⟨gb284, 14, none⟩ = some (.slice A0_14 l0_14.length c0_14) := (blk_cell BK284.out 14).trans rfl; have hcz25_15 : w24.cell? ⟨gb284, 15, none⟩ = some (.slice A0_15 l0_15.length c0_15) := (blk_cell BK284.out 15).trans rfl; have hcz25_16 : w24.cell? ⟨gb284, 16, none⟩ = some (.slice A0_16 l0_16.length c0_16) := (blk_cell BK284.out 16).trans rfl; have hcz25_17 : w24.cell? ⟨gb284, 17, none⟩ = some (.int .i64 a0_17) := (blk_cell BK284.out 17).trans rfl; have hcz25_18 : w24.cell? ⟨gb284, 18, none⟩ = some (.bool a0_18) := (blk_cell BK284.out 18).trans rfl; have hcz25_19 : w24.cell? ⟨gb284, 19, none⟩ = some (.bool a0_19) := (blk_cell BK284.out 19).trans rfl; have hfz25_0 := blk_frozen BK284.out 0; have hfz25_1 := blk_frozen BK284.out 1; have hfz25_2 := blk_frozen BK284.out 2; have hfz25_3 := blk_frozen BK284.out 3; have hfz25_4 := blk_frozen BK284.out 4; have hfz25_5 := blk_frozen BK284.out 5; have hfz25_6 := blk_frozen BK284.out 6; have hfz25_7 := blk_frozen BK284.out 7; have hfz25_8 := blk_frozen BK284.out 8; have hfz25_9 := blk_frozen BK284.out 9; have hfz25_10 := blk_frozen BK284.out 10; have hfz25_11 := blk_frozen BK284.out 11; have hfz25_12 := blk_frozen BK284.out 12; have hfz25_13 := blk_frozen BK284.out 13; have hfz25_14 := blk_frozen BK284.out 14; have hfz25_15 := blk_frozen BK284.out 15; have hfz25_16 := blk_frozen BK284.out 16; have hfz25_17 := blk_frozen BK284.out 17; have hfz25_18 := blk_frozen BK284.out 18; have hfz25_19 := blk_frozen BK284.out 19; have hcz26_0 : w24.cell? ⟨gb285, 0, none⟩ = some (.slice A1_0 l1_0.length c1_0) := (blk_cell BK285.out 0).trans rfl; have hcz26_1 : w24.cell? ⟨gb285, 1, none⟩ = some (.slice A1_1 l1_1.length c1_1) := (blk_cell BK285.out 1).trans rfl; have hcz26_2 : w24.cell? ⟨gb285, 2, none⟩ = some (.int .i64 a1_2) := (blk_cell BK285.out 2).trans rfl; have hcz26_3 : w24.cell? ⟨gb285, 3, none⟩ = some (.int .i64 a1_3) := (blk_cell BK285.out 3).trans rfl; have hcz26_4 : w24.cell? ⟨gb285, 4, none⟩ = some (.int .i64 a1_4) := (blk_cell BK285.out 4).trans rfl; have hcz26_5 : w24.cell? ⟨gb285, 5, none⟩ = some (.slice A1_5 l1_5.length c1_5) := (blk_cell BK285.out 5).trans rfl; have hcz26_6 : w24.cell? ⟨gb285, 6, none⟩ = some (.slice A1_6 l1_6.length c1_6) := (blk_cell BK285.out 6).trans rfl; have hcz26_7 : w24.cell? ⟨gb285, 7, none⟩ = some (.int .i64 a1_7) := (blk_cell BK285.out 7).trans rfl; have hcz26_8 : w24.cell? ⟨gb285, 8, none⟩ = some (.int .i64 a1_8) := (blk_cell BK285.out 8).trans rfl; have hcz26_9 : w24.cell? ⟨gb285, 9, none⟩ = some (.int .i64 a1_9) := (blk_cell BK285.out 9).trans rfl; have hcz26_10 : w24.cell? ⟨gb285, 10, none⟩ = some (.slice A1_10 l1_10.length c1_10) := (blk_cell BK285.out 10).trans rfl; have hcz26_11 : w24.cell? ⟨gb285, 11, none⟩ = some (.slice A1_11 l1_11.length c1_11) := (blk_cell BK285.out 11).trans rfl; have hcz26_12 : w24.cell? ⟨gb285, 12, none⟩ = some (.slice A1_12 l1_12.length c1_12) := (blk_cell BK285.out 12).trans rfl; have hcz26_13 : w24.cell? ⟨gb285, 13, none⟩ = some (.int .i64 a1_13) := (blk_cell BK285.out 13).trans rfl; have hcz26_14 : w24.cell? ⟨gb285, 14, none⟩ = some (.slice A1_14 l1_14.length c1_14) := (blk_cell BK285.out 14).trans rfl; have hcz26_15 : w24.cell? ⟨gb285, 15, none⟩ = some (.slice A1_15 l1_15.length c1_15) := (blk_cell BK285.out 15).trans rfl; have hcz26_16 : w24.cell? ⟨gb285, 16, none⟩ = some (.slice A1_16 l1_16.length c1_16) := (blk_cell BK285.out 16).trans rfl; have hcz26_17 : w24.cell? ⟨gb285, 17, none⟩ = some (.int .i64 a1_17) := (blk_cell BK285.out 17).trans rfl; have hcz26_18 : w24.cell? ⟨gb285, 18, none⟩ = some (.bool a1_18) := (blk_cell BK285.out 18).trans rfl; have hcz26_19 : w24.cell? ⟨gb285, 19, none⟩ = some (.bool a1_19) := (blk_cell BK285.out 19).trans rfl; have hfz26_0 := blk_frozen BK285.out 0; have hfz26_1 := blk_frozen BK285.out 1; have hfz26_2 := blk_frozen BK285.out 2; have hfz26_3 := blk_frozen BK285.out 3; have hfz26_4 := blk_frozen BK285.out 4; have hfz26_5 := blk_frozen BK285.out 5; have hfz26_6 := blk_frozen BK285.out 6; have hfz26_7 := blk_frozen BK285.out 7; have hfz26_8 := blk_frozen BK285.out 8; have hfz26_9 := blk_frozen BK285.out 9; have hfz26_10 := blk_frozen BK285.out 10; have hfz26_11 := blk_frozen BK285.out 11; have hfz26_12 := blk_frozen BK285.out 12; have hfz26_13 := blk_frozen BK285.out 13; have hfz26_14 := blk_frozen BK285.out 14; have hfz26_15 := blk_frozen BK285.out 15; have hfz26_16 := blk_frozen BK285.out 16; have hfz26_17 := blk_frozen BK285.out 17; have hfz26_18 := blk_frozen BK285.out 18; have hfz26_19 := blk_frozen BK285.out 19) | ((with_reducible refine gate_callee (f := 64) rfl ?_); refine goesL_ (some 27) rfl rfl Try.func64 (by kernel_rfl) rfl #[.agg #[.int .i64 a0_7, .int .i64 a0_8, .int .i64 a0_9, .slice A0_10 l0_10.length c0_10, .slice A0_11 l0_11.length c0_11, .slice A0_12 l0_12.length c0_12, .int .i64 a0_13, .slice A0_14 l0_14.length c0_14, .slice A0_15 l0_15.length c0_15, .slice A0_16 l0_16.length c0_16, .int .i64 a0_17], .agg #[.int .i64 a1_7, .int .i64 a1_8, .int .i64 a1_9, .slice A1_10 l1_10.length c1_10, .slice A1_11 l1_11.length c1_11, .slice A1_12 l1_12.length c1_12, .int .i64 a1_13, .slice A1_14 l1_14.length c1_14, .slice A1_15 l1_15.length c1_15, .slice A1_16 l1_16.length c1_16, .int .i64 a1_17]] rfl (by (try simp only [List.map_toArray, List.map_cons, List.map_nil]); first | done | rfl | (simp only [List.length_drop, List.length_take]; rfl)) ?_; (with_reducible refine (laws_eqTxn.calls k a0_7 a0_8 a0_9 _ _ l0_10 _ _ l0_11 _ _ l0_12 a0_13 _ _ l0_14 _ _ l0_15 _ _ l0_16 a0_17 a1_7 a1_8 a1_9 _ _ l1_10 _ _ l1_11 _ _ l1_12 a1_13 _ _ l1_14 _ _ l1_15 _ _ l1_16 a1_17 true _ ?side1 ?side2 ?side3 ?side4 ?side5 ?side6 ?side7 ?side8 ?side9 ?side10 ?side11 ?side12 ?side13 ?side14 ?side15 ?side16 ?side17 ?side18 ?side19 ?side20 ?side21 ?side22 ?side23 ?side24 A9.out).mono ?_); (case side1 => repeat (first | exact (Kd.C_below HR0_10.out HB.out) | (with_reducible refine Kd.C_alloc ?_ _) | (with_reducible refine Kd.C_drewN ?_ _) | (with_reducible refine Kd.C_drew ?_))); (case side2 => exact HC0_10.out); (case side3 => repeat (first | exact (Kd.C_below HR0_11.out HB.out) | (with_reducible refine Kd.C_alloc ?_ _) | (with_reducible refine Kd.C_drewN ?_ _) | (with_reducible refine Kd.C_drew ?_))); (case side4 => exact HC0_11.out); (case side5 => repeat (first | exact (Kd.C_below HR0_12.out HB.out) | (with_reducible refine Kd.C_alloc ?_ _) | (with_reducible refine Kd.C_drewN ?_ _) | (with_reducible refine Kd.C_drew ?_))); (case side6 => exact HC0_12.out); (case side7 => repeat (first | exact (Kd.C_below HR0_14.out HB.out) | (with_reducible refine Kd.C_alloc ?_ _) | (with_reducible refine Kd.C_drewN ?_ _) | (with_reducible refine Kd.C_drew ?_))); (case side8 => exact HC0_14.out); (case side9 => repeat (first | exact (Kd.C_below HR0_15.out HB.out) | (with_reducible refine Kd.C_alloc ?_ _) | (with_reducible refine Kd.C_drewN ?_ _) | (with_reducible refine Kd.C_drew ?_))); (case side10 => exact HC0_15.out); (case side11 => repeat (first | exact (Kd.C_below HR0_16.out HB.out) | (with_reducible refine Kd.C_alloc ?_ _) | (with_reducible refine Kd.C_drewN ?_ _) | (with_reducible refine Kd.C_drew ?_))); (case side12 => exact HC0_16.out); (case side13 => repeat (first | exact (Kd.C_below HR1_10.out HB.out) | (with_reducible refine Kd.C_alloc ?_ _) | (with_reducible refine Kd.C_drewN ?_ _) | (with_reducible refine Kd.C_drew ?_))); (case side14 => exact HC1_10.out); (case side15 => repeat (first | exact (Kd.C_below HR1_11.out HB.out) | (with_reducible refine Kd.C_alloc ?_ _) | (with_reducible refine Kd.C_drewN ?_ _) | (with_reducible refine Kd.C_drew ?_))); (case side16 => exact HC1_11.out); (case side17 => repeat (first | exact (Kd.C_below HR1_12.out HB.out) | (with_reducible refine Kd.C_alloc ?_ _) | (with_reducible refine Kd.C_drewN ?_ _) | (with_reducible refine Kd.C_drew ?_))); (case side18 => exact HC1_12.out); (case side19 => repeat (first | exact (Kd.C_below HR1_14.out HB.out) | (with_reducible refine Kd.C_alloc ?_ _) | (with_reducible refine Kd.C_drewN ?_ _) | (with_reducible refine Kd.C_drew ?_))); (case side20 => exact HC1_14.out); (case side21 => repeat (first | exact (Kd.C_below HR1_15.out HB.out) | (with_reducible refine Kd.C_alloc ?_ _) | (with_reducible refine Kd.C_drewN ?_ _) | (with_reducible refine Kd.C_drew ?_))); (case side22 => exact HC1_15.out); (case side23 => repeat (first | exact (Kd.C_below HR1_16.out HB.out) | (with_reducible refine Kd.C_alloc ?_ _) | (with_reducible refine Kd.C_drewN ?_ _) | (with_reducible refine Kd.C_drew ?_))); (case side24 => exact HC1_16.out); rintro e w27 ⟨rfl, hb⟩; refine ⟨_, rfl, ?_⟩; have n0_ := Aside0.mk (blk_below (g := gb284) (o := .cells #[.slice A0_0 l0_0.length c0_0, .slice A0_1 l0_1.length c0_1, .int .i64 a0_2, .int .i64 a0_3, .int .i64 a0_4, .slice A0_5 l0_5.length c0_5, .slice A0_6 l0_6.length c0_6, .int .i64 a0_7, .int .i64 a0_8, .int .i64 a0_9, .slice A0_10 l0_10.length c0_10, .slice A0_11 l0_11.length c0_11, .slice A0_12 l0_12.length c0_12, .int .i64 a0_13, .slice A0_14 l0_14.length c0_14, .slice A0_15 l0_15.length c0_15, .slice A0_16 l0_16.length c0_16, .int .i64 a0_17, .bool a0_18, .bool a0_19] 51 (0, 0)) (by (with_reducible repeat (first | refine blk_drewN ?_ _ | refine blk_drew ?_ | refine blk_alloc ?_ _)); exact BK284.out) hb); have n1_ := Aside0.mk (blk_below (g := gb285) (o := .cells #[.slice A1_0 l1_0.length c1_0, .slice A1_1 l1_1.length c1_1, .int .i64 a1_2, .int .i64 a1_3, .int .i64 a1_4, .slice A1_5 l1_5.length c1_5, .slice A1_6 l1_6.length c1_6, .int .i64 a1_7, .int .i64 a1_8, .int .i64 a1_9, .slice A1_10 l1_10.length c1_10, .slice A1_11 l1_11.length c1_11, .slice A1_12 l1_12.length c1_12, .int .i64 a1_13, .slice A1_14 l1_14.length c1_14, .slice A1_15 l1_15.length c1_15, .slice A1_16 l1_16.length c1_16, .int .i64 a1_17, .bool a1_18, .bool a1_19] 51 (0, 0)) (by (with_reducible repeat (first | refine blk_drewN ?_ _ | refine blk_drew ?_ | refine blk_alloc ?_ _)); exact BK285.out) hb); have n2_ := Aside0.mk (below_step (by repeat (first | (with_reducible first | exact HB.out | apply below_alloc | apply pw_below_drewN | apply below_drew1 | refine below_set ?_ GE284.out | refine below_set ?_ GE285.out) | exact HB.out)) hb); clear BK284; clear BK285; clear HB; have BK284 := n0_; have BK285 := n1_; have HB := n2_; clear n0_ n1_ n2_; (try clear hb); (try clear hb2); (try clear hk); (try clear hi); have hcz28_0 : w27.cell? ⟨gb284, 0, none⟩ = some (.slice A0_0 l0_0.length c0_0) := (blk_cell BK284.out 0).trans rfl; have hcz28_1 : w27.cell? ⟨gb284, 1, none⟩ = some (.slice A0_1 l0_1.length c0_1) := (blk_cell BK284.out 1).trans rfl; have hcz28_2 : w27.cell? ⟨gb284, 2, none⟩ = some (.int .i64 a0_2) := (blk_cell BK284.out 2).trans rfl; have hcz28_3 : w27.cell? ⟨gb284, 3, none⟩ = some (.int .i64 a0_3) := (blk_cell BK284.out 3).trans rfl; have hcz28_4 : w27.cell? ⟨gb284, 4, none⟩ = some (.int .i64 a0_4) := (blk_cell BK284.out 4).trans rfl; have hcz28_5 : w27.cell? ⟨gb284, 5, none⟩ = some (.slice A0_5 l0_5.length c0_5) := (blk_cell BK284.out 5).trans rfl; have hcz28_6 : w27.cell? ⟨gb284, 6, none⟩ = some (.slice A0_6 l0_6.length c0_6) := (blk_cell BK284.out 6).trans rfl; have hcz28_7 : w27.cell? ⟨gb284, 7, none⟩ = some (.int .i64 a0_7) := (blk_cell BK284.out 7).trans rfl; have hcz28_8 : w27.cell? ⟨gb284, 8, none⟩ = some (.int .i64 a0_8) := (blk_cell BK284.out 8).trans rfl; have hcz28_9 : w27.cell? ⟨gb284, 9, none⟩ = some (.int .i64 a0_9) := (blk_cell BK284.out 9).trans rfl; have hcz28_10 : w27.cell? ⟨gb284, 10, none⟩ = some (.slice A0_10 l0_10.length c0_10) := (blk_cell BK284.out 10).trans rfl; have hcz28_11 : w27.cell? ⟨gb284, 11, none⟩ = some (.slice A0_11 l0_11.length c0_11) := (blk_cell BK284.out 11).trans rfl; have hcz28_12 : w27.cell? ⟨gb284, 12, none⟩ = some (.slice A0_12 l0_12.length c0_12) := (blk_cell BK284.out 12).trans rfl; have hcz28_13 : w27.cell? ⟨gb284, 13, none⟩ = some (.int .i64 a0_13) := (blk_cell BK284.out 13).trans rfl; have hcz28_14 : w27.cell? ⟨gb284, 14, none⟩ = some (.slice A0_14 l0_14.length c0_14) := (blk_cell BK284.out 14).trans rfl; have hcz28_15 : w27.cell? ⟨gb284, 15, none⟩ = some (.slice A0_15 l0_15.length c0_15) := (blk_cell BK284.out 15).trans rfl; have hcz28_16 : w27.cell? ⟨gb284, 16, none⟩ = some (.slice A0_16 l0_16.length c0_16) := (blk_cell BK284.out 16).trans rfl; have hcz28_17 : w27.cell? ⟨gb284, 17, none⟩ = some (.int .i64 a0_17) := (blk_cell BK284.out 17).trans rfl; have hcz28_18 : w27.cell? ⟨gb284, 18, none⟩ = some (.bool a0_18) := (blk_cell BK284.out 18).trans rfl; have hcz28_19 : w27.cell? ⟨gb284, 19, none⟩ = some (.bool a0_19) := (blk_cell BK284.out 19).trans rfl; have hfz28_0 := blk_frozen BK284.out 0; have hfz28_1 := blk_frozen BK284.out 1; have hfz28_2 := blk_frozen BK284.out 2; have hfz28_3 := blk_frozen BK284.out 3; have hfz28_4 := blk_frozen BK284.out 4; have hfz28_5 := blk_frozen BK284.out 5; have hfz28_6 := blk_frozen BK284.out 6; have hfz28_7 := blk_frozen BK284.out 7; have hfz28_8 := blk_frozen BK284.out 8; have hfz28_9 := blk_frozen BK284.out 9; have hfz28_10 := blk_frozen BK284.out 10; have hfz28_11 := blk_frozen BK284.out 11; have hfz28_12 := blk_frozen BK284.out 12; have hfz28_13 := blk_frozen BK284.out 13; have hfz28_14 := blk_frozen BK284.out 14; have hfz28_15 := blk_frozen BK284.out 15; have hfz28_16 := blk_frozen BK284.out 16; have hfz28_17 := blk_frozen BK284.out 17; have hfz28_18 := blk_frozen BK284.out 18; have hfz28_19 := blk_frozen BK284.out 19; have hcz29_0 : w27.cell? ⟨gb285, 0, none⟩ = some (.slice A1_0 l1_0.length c1_0) := (blk_cell BK285.out 0).trans rfl; have hcz29_1 : w27.cell? ⟨gb285, 1, none⟩ = some (.slice A1_1 l1_1.length c1_1) := (blk_cell BK285.out 1).trans rfl; have hcz29_2 : w27.cell? ⟨gb285, 2, none⟩ = some (.int .i64 a1_2) := (blk_cell BK285.out 2).trans rfl; have hcz29_3 : w27.cell? ⟨gb285, 3, none⟩ = some (.int .i64 a1_3) := (blk_cell BK285.out 3).trans rfl; have hcz29_4 : w27.cell? ⟨gb285, 4, none⟩ = some (.int .i64 a1_4) := (blk_cell BK285.out 4).trans rfl; have hcz29_5 : w27.cell? ⟨gb285, 5, none⟩ = some (.slice A1_5 l1_5.length c1_5) := (blk_cell BK285.out 5).trans rfl; have hcz29_6 : w27.cell? ⟨gb285, 6, none⟩ = some (.slice A1_6 l1_6.length c1_6) := (blk_cell BK285.out 6).trans rfl; have hcz29_7 : w27.cell? ⟨gb285, 7, none⟩ = some (.int .i64 a1_7) := (blk_cell BK285.out 7).trans rfl; have hcz29_8 : w27.cell? ⟨gb285, 8, none⟩ = some (.int .i64 a1_8) := (blk_cell BK285.out 8).trans rfl; have hcz29_9 : w27.cell? ⟨gb285, 9, none⟩ = some (.int .i64 a1_9) := (blk_cell BK285.out 9).trans rfl; have hcz29_10 : w27.cell? ⟨gb285, 10, none⟩ = some (.slice A1_10 l1_10.length c1_10) := (blk_cell BK285.out 10).trans rfl; have hcz29_11 : w27.cell? ⟨gb285, 11, none⟩ = some (.slice A1_11 l1_11.length c1_11) := (blk_cell BK285.out 11).trans rfl; have hcz29_12 : w27.cell? ⟨gb285, 12, none⟩ = some (.slice A1_12 l1_12.length c1_12) := (blk_cell BK285.out 12).trans rfl; have hcz29_13 : w27.cell? ⟨gb285, 13, none⟩ = some (.int .i64 a1_13) := (blk_cell BK285.out 13).trans rfl; have hcz29_14 : w27.cell? ⟨gb285, 14, none⟩ = some (.slice A1_14 l1_14.length c1_14) := (blk_cell BK285.out 14).trans rfl; have hcz29_15 : w27.cell? ⟨gb285, 15, none⟩ = some (.slice A1_15 l1_15.length c1_15) := (blk_cell BK285.out 15).trans rfl; have hcz29_16 : w27.cell? ⟨gb285, 16, none⟩ = some (.slice A1_16 l1_16.length c1_16) := (blk_cell BK285.out 16).trans rfl; have hcz29_17 : w27.cell? ⟨gb285, 17, none⟩ = some (.int .i64 a1_17) := (blk_cell BK285.out 17).trans rfl; have hcz29_18 : w27.cell? ⟨gb285, 18, none⟩ = some (.bool a1_18) := (blk_cell BK285.out 18).trans rfl; have hcz29_19 : w27.cell? ⟨gb285, 19, none⟩ = some (.bool a1_19) := (blk_cell BK285.out 19).trans rfl; have hfz29_0 := blk_frozen BK285.out 0; have hfz29_1 := blk_frozen BK285.out 1; have hfz29_2 := blk_frozen BK285.out 2; have hfz29_3 := blk_frozen BK285.out 3; have hfz29_4 := blk_frozen BK285.out 4; have hfz29_5 := blk_frozen BK285.out 5; have hfz29_6 := blk_frozen BK285.out 6; have hfz29_7 := blk_frozen BK285.out 7; have hfz29_8 := blk_frozen BK285.out 8; have hfz29_9 := blk_frozen BK285.out 9; have hfz29_10 := blk_frozen BK285.out 10; have hfz29_11 := blk_frozen BK285.out 11; have hfz29_12 := blk_frozen BK285.out 12; have hfz29_13 := blk_frozen BK285.out 13; have hfz29_14 := blk_frozen BK285.out 14; have hfz29_15 := blk_frozen BK285.out 15; have hfz29_16 := blk_frozen BK285.out 16; have hfz29_17 := blk_frozen BK285.out 17; have hfz29_18 := blk_frozen BK285.out 18; have hfz29_19 := blk_frozen BK285.out 19))
       go_ret
       exact ⟨by first | rfl | (simp [errW_none, errW_some] <;> rfl) | (simp [*, errW_none, errW_some] <;> rfl), by repeat (first | (with_reducible first | exact HB.out | apply below_alloc | apply pw_below_drewN | apply below_drew1 | refine below_set ?_ GE284.out | refine below_set ?_ GE285.out) | exact HB.out)⟩
    ·replace c10 := Bool.eq_false_iff.mpr c10
     subst c10
     have H1 : (none) = some r := by rw [if_neg (show ¬ (false = true) by decide)] at H; exact H
     clear H
     have H := H1
     clear H1
     exact absurd H (by simp)
   ·replace c8 := Bool.eq_false_iff.mpr c8
    subst c8
    have H1 : (none) = some r := by rw [if_neg (show ¬ (false = true) by decide)] at H; exact H
    clear H
    have H := H1
    clear H1
    exact absurd H (by simp)
  ·replace c6 := Bool.eq_false_iff.mpr c6
   subst c6
   have H1 : (none) = some r := by rw [if_neg (show ¬ (false = true) by decide)] at H; exact H
   clear H
   have H := H1
   clear H1
   exact absurd H (by simp)
 ·replace c4 := Bool.eq_false_iff.mpr c4
  subst c4
  have H1 : (none) = some r := by rw [if_neg (show ¬ (false = true) by decide)] at H; exact H
  clear H
  have H := H1
  clear H1
  exact absurd H (by simp)
theorem oldest_small (k : Nat) (A0 : Option Addr) (c0 : Nat) (l0 : List ByteArray) (A1 : Option Addr) (c1 : Nat) (l1 : List (S187)) (a2 : Int) (a3 : Int) (a4 : Int) (A5 : Option Addr) (c5 : Nat) (l5 : List (S198)) (A6 : Option Addr) (c6 : Nat) (l6 : List (S162)) (a7 : Int) (a8 : Int) (a9 : Int) (A10 : Option Addr) (c10 : Nat) (l10 : List (S198)) (A11 : Option Addr) (c11 : Nat) (l11 : List ByteArray) (A12 : Option Addr) (c12 : Nat) (l12 : List (S187)) (a13 : Int) (A14 : Option Addr) (c14 : Nat) (l14 : List Int) (A15 : Option Addr) (c15 : Nat) (l15 : List Int) (A16 : Option Addr) (c16 : Nat) (l16 : List Int) (a17 : Int) (a18 : Bool) (a19 : Bool) (t : Int) (w : World) (hr0 : Kd.C Kd.string w A0 l0.length l0) (hc0 : l0.length ≤ c0) (hr1 : Kd.C k187 w A1 l1.length l1) (hc1 : l1.length ≤ c1) (hr5 : Kd.C k198 w A5 l5.length l5) (hc5 : l5.length ≤ c5) (hr6 : Kd.C k162 w A6 l6.length l6) (hc6 : l6.length ≤ c6) (hr10 : Kd.C k198 w A10 l10.length l10) (hc10 : l10.length ≤ c10) (hr11 : Kd.C Kd.string w A11 l11.length l11) (hc11 : l11.length ≤ c11) (hr12 : Kd.C k187 w A12 l12.length l12) (hc12 : l12.length ≤ c12) (hr14 : Kd.C (Kd.int .i64) w A14 l14.length l14) (hc14 : l14.length ≤ c14) (hr15 : Kd.C (Kd.int .i64) w A15 l15.length l15) (hc15 : l15.length ≤ c15) (hr16 : Kd.C (Kd.int .i64) w A16 l16.length l16) (hc16 : l16.length ≤ c16)
  (h1 : laws_szStore.f k l0 l1 a2 a3 a4 l5 l6 a7 a8 a9 l10 l11 l12 a13 l14 l15 l16 a17 a18 a19 1048576 = some t) (ht : t < 0) :
  Calls Try.prog 3 #[.agg #[.slice A0 l0.length c0, .slice A1 l1.length c1, .int .i64 a2, .int .i64 a3, .int .i64 a4, .slice A5 l5.length c5, .slice A6 l6.length c6, .int .i64 a7, .int .i64 a8, .int .i64 a9, .slice A10 l10.length c10, .slice A11 l11.length c11, .slice A12 l12.length c12, .int .i64 a13, .slice A14 l14.length c14, .slice A15 l15.length c15, .slice A16 l16.length c16, .int .i64 a17, .bool a18, .bool a19]] w fun e w' => e = .returned (.bool true) ∧ Below w.heap.size w w' := by
 have HR0 := Aside0.mk hr0
 have HC0 := Aside0.mk hc0
 have HR1 := Aside0.mk hr1
 have HC1 := Aside0.mk hc1
 have HR5 := Aside0.mk hr5
 have HC5 := Aside0.mk hc5
 have HR6 := Aside0.mk hr6
 have HC6 := Aside0.mk hc6
 have HR10 := Aside0.mk hr10
 have HC10 := Aside0.mk hc10
 have HR11 := Aside0.mk hr11
 have HC11 := Aside0.mk hc11
 have HR12 := Aside0.mk hr12
 have HC12 := Aside0.mk hc12
 have HR14 := Aside0.mk hr14
 have HC14 := Aside0.mk hc14
 have HR15 := Aside0.mk hr15
 have HC15 := Aside0.mk hc15
 have HR16 := Aside0.mk hr16
 have HC16 := Aside0.mk hc16
 clear hr0 hc0 hr1 hc1 hr5 hc5 hr6 hc6 hr10 hc10 hr11 hc11 hr12 hc12 hr14 hc14 hr15 hc15 hr16 hc16
 have K1 := Aside0.mk h1
 have tb : decide (t < 0) = true := decide_eq_true ht
 clear h1 ht
 have BA := Aside0.mk (blk_new w (.cells #[.slice A0 l0.length c0, .slice A1 l1.length c1, .int .i64 a2, .int .i64 a3, .int .i64 a4, .slice A5 l5.length c5, .slice A6 l6.length c6, .int .i64 a7, .int .i64 a8, .int .i64 a9, .slice A10 l10.length c10, .slice A11 l11.length c11, .slice A12 l12.length c12, .int .i64 a13, .slice A14 l14.length c14, .slice A15 l15.length c15, .slice A16 l16.length c16, .int .i64 a17, .bool a18, .bool a19] 36))
 go_enter Try.func3, Try.ntmps3
 go_wp2_with (((with_reducible refine gate_dst (N := 7) rfl ?_); refine ev_loadrow rfl 36 _ rfl w.heap.size #[.slice A0 l0.length c0, .slice A1 l1.length c1, .int .i64 a2, .int .i64 a3, .int .i64 a4, .slice A5 l5.length c5, .slice A6 l6.length c6, .int .i64 a7, .int .i64 a8, .int .i64 a9, .slice A10 l10.length c10, .slice A11 l11.length c11, .slice A12 l12.length c12, .int .i64 a13, .slice A14 l14.length c14, .slice A15 l15.length c15, .slice A16 l16.length c16, .int .i64 a17, .bool a18, .bool a19] 36 _ rfl BA.out Try.underlying36 rfl (by kernel_rfl) ?_))
 ((with_reducible refine (laws_szStore.calls k A0 c0 l0 A1 c1 l1 a2 a3 a4 A5 c5 l5 A6 c6 l6 a7 a8 a9 A10 c10 l10 A11 c11 l11 A12 c12 l12 a13 A14 c14 l14 A15 c15 l15 A16 c16 l16 a17 a18 a19 1048576 t _ (Kd.C_below HR0.out (below_alloc (Below.refl _ _) _)) HC0.out (Kd.C_below HR1.out (below_alloc (Below.refl _ _) _)) HC1.out (Kd.C_below HR5.out (below_alloc (Below.refl _ _) _)) HC5.out (Kd.C_below HR6.out (below_alloc (Below.refl _ _) _)) HC6.out (Kd.C_below HR10.out (below_alloc (Below.refl _ _) _)) HC10.out (Kd.C_below HR11.out (below_alloc (Below.refl _ _) _)) HC11.out (Kd.C_below HR12.out (below_alloc (Below.refl _ _) _)) HC12.out (Kd.C_below HR14.out (below_alloc (Below.refl _ _) _)) HC14.out (Kd.C_below HR15.out (below_alloc (Below.refl _ _) _)) HC15.out (Kd.C_below HR16.out (below_alloc (Below.refl _ _) _)) HC16.out K1.out).mono ?_); rintro e w1 ⟨rfl, hb1⟩)
 have HB1 := Aside0.mk (below_step (below_alloc (Below.refl w.heap.size w) _) hb1)
 clear hb1
 go_wp2
 go_ret
 exact ⟨rfl, HB1.out⟩
def oldest.T10 : Bool × List (List Nat × List Nat) := (true, [([], []), ([], []), ([1], [1]), ([0, 2, 2], [0, 2]), ([3], [3])])
def oldest.B10 : List Nat := [0, 0, 2, 7, 15]
theorem oldest.ok10_0 : regB (opsOf Try.f3 10) oldest.T10 oldest.B10 [] [.t 0, .t 1, .e 2, .e 3, .p 4] = true := by kernel_rfl
theorem oldest_great (k : Nat) (A0 : Option Addr) (c0 : Nat) (l0 : List ByteArray) (A1 : Option Addr) (c1 : Nat) (l1 : List (S187)) (a2 : Int) (a3 : Int) (a4 : Int) (A5 : Option Addr) (c5 : Nat) (l5 : List (S198)) (A6 : Option Addr) (c6 : Nat) (l6 : List (S162)) (a7 : Int) (a8 : Int) (a9 : Int) (A10 : Option Addr) (c10 : Nat) (l10 : List (S198)) (A11 : Option Addr) (c11 : Nat) (l11 : List ByteArray) (A12 : Option Addr) (c12 : Nat) (l12 : List (S187)) (a13 : Int) (A14 : Option Addr) (c14 : Nat) (l14 : List Int) (A15 : Option Addr) (c15 : Nat) (l15 : List Int) (A16 : Option Addr) (c16 : Nat) (l16 : List Int) (a17 : Int) (a18 : Bool) (a19 : Bool) (m0 : List ByteArray) (m1 : List (S189)) (m5 : List (S109)) (m6 : List (S99)) (m10 : List (S109)) (m11 : List ByteArray) (m12 : List (S189)) (m14 : List Int) (m15 : List Int) (m16 : List Int) (t r : Int) (w : World) (hr0 : Kd.C Kd.string w A0 l0.length l0) (hc0 : l0.length ≤ c0) (hr1 : Kd.C k187 w A1 l1.length l1) (hc1 : l1.length ≤ c1) (hr5 : Kd.C k198 w A5 l5.length l5) (hc5 : l5.length ≤ c5) (hr6 : Kd.C k162 w A6 l6.length l6) (hc6 : l6.length ≤ c6) (hr10 : Kd.C k198 w A10 l10.length l10) (hc10 : l10.length ≤ c10) (hr11 : Kd.C Kd.string w A11 l11.length l11) (hc11 : l11.length ≤ c11) (hr12 : Kd.C k187 w A12 l12.length l12) (hc12 : l12.length ≤ c12) (hr14 : Kd.C (Kd.int .i64) w A14 l14.length l14) (hc14 : l14.length ≤ c14) (hr15 : Kd.C (Kd.int .i64) w A15 l15.length l15) (hc15 : l15.length ≤ c15) (hr16 : Kd.C (Kd.int .i64) w A16 l16.length l16) (hc16 : l16.length ≤ c16)
  (hs : laws_szStore.f k l0 l1 a2 a3 a4 l5 l6 a7 a8 a9 l10 l11 l12 a13 l14 l15 l16 a17 a18 a19 1048576 = some t) (ht : ¬ t < 0) (h1 : laws_toDisk.f k l0 l1 = some (m0, m1)) (h2 : laws_toMeta.f k a2 a3 a4 l5 = some (a2, a3, a4, m5)) (h3 : laws_toReaderS.f k l6 = some m6) (h4 : laws_toTxn.f k a7 a8 a9 l10 l11 l12 a13 l14 l15 l16 a17 = some (a7, a8, a9, m10, m11, m12, a13, m14, m15, m16, a17)) (h5 : spec_OldestOf.f k m0 m1 a2 a3 a4 m5 m6 a7 a8 a9 m10 m11 m12 a13 m14 m15 m16 a17 a18 a19 = some r) (h6 : impl_OldestOf.f k m0 m1 a2 a3 a4 m5 m6 a7 a8 a9 m10 m11 m12 a13 m14 m15 m16 a17 a18 a19 = some r) (h7 : laws_eqStore.f k m0 m1 a2 a3 a4 m5 m6 a7 a8 a9 m10 m11 m12 a13 m14 m15 m16 a17 a18 a19 m0 m1 a2 a3 a4 m5 m6 a7 a8 a9 m10 m11 m12 a13 m14 m15 m16 a17 a18 a19 = some true) :
  Calls Try.prog 3 #[.agg #[.slice A0 l0.length c0, .slice A1 l1.length c1, .int .i64 a2, .int .i64 a3, .int .i64 a4, .slice A5 l5.length c5, .slice A6 l6.length c6, .int .i64 a7, .int .i64 a8, .int .i64 a9, .slice A10 l10.length c10, .slice A11 l11.length c11, .slice A12 l12.length c12, .int .i64 a13, .slice A14 l14.length c14, .slice A15 l15.length c15, .slice A16 l16.length c16, .int .i64 a17, .bool a18, .bool a19]] w fun e w' => e = .returned (.bool true) ∧ Below w.heap.size w w' := by
 have HR0 := Aside0.mk hr0
 have HC0 := Aside0.mk hc0
 have HR1 := Aside0.mk hr1
 have HC1 := Aside0.mk hc1
 have HR5 := Aside0.mk hr5
 have HC5 := Aside0.mk hc5
 have HR6 := Aside0.mk hr6
 have HC6 := Aside0.mk hc6
 have HR10 := Aside0.mk hr10
 have HC10 := Aside0.mk hc10
 have HR11 := Aside0.mk hr11
 have HC11 := Aside0.mk hc11
 have HR12 := Aside0.mk hr12
 have HC12 := Aside0.mk hc12
 have HR14 := Aside0.mk hr14
 have HC14 := Aside0.mk hc14
 have HR15 := Aside0.mk hr15
 have HC15 := Aside0.mk hc15
 have HR16 := Aside0.mk hr16
 have HC16 := Aside0.mk hc16
 clear hr0 hc0 hr1 hc1 hr5 hc5 hr6 hc6 hr10 hc10 hr11 hc11 hr12 hc12 hr14 hc14 hr15 hc15 hr16 hc16
 have K1 := Aside0.mk hs
 have KA := Aside0.mk h1
 have KB := Aside0.mk h2
 have KC := Aside0.mk h3
 have KD := Aside0.mk h4
 have K5 := Aside0.mk h5
 have K6 := Aside0.mk h6
 have K7 := Aside0.mk h7
 have tb : decide (t < 0) = false := decide_eq_false ht
 clear hs ht h1 h2 h3 h4 h5 h6 h7
 have BA := Aside0.mk (blk_new w (.cells #[.slice A0 l0.length c0, .slice A1 l1.length c1, .int .i64 a2, .int .i64 a3, .int .i64 a4, .slice A5 l5.length c5, .slice A6 l6.length c6, .int .i64 a7, .int .i64 a8, .int .i64 a9, .slice A10 l10.length c10, .slice A11 l11.length c11, .slice A12 l12.length c12, .int .i64 a13, .slice A14 l14.length c14, .slice A15 l15.length c15, .slice A16 l16.length c16, .int .i64 a17, .bool a18, .bool a19] 36))
 go_enter Try.func3, Try.ntmps3
 go_wp2_with (((with_reducible refine gate_dst (N := 7) rfl ?_); refine ev_loadrow rfl 36 _ rfl w.heap.size #[.slice A0 l0.length c0, .slice A1 l1.length c1, .int .i64 a2, .int .i64 a3, .int .i64 a4, .slice A5 l5.length c5, .slice A6 l6.length c6, .int .i64 a7, .int .i64 a8, .int .i64 a9, .slice A10 l10.length c10, .slice A11 l11.length c11, .slice A12 l12.length c12, .int .i64 a13, .slice A14 l14.length c14, .slice A15 l15.length c15, .slice A16 l16.length c16, .int .i64 a17, .bool a18, .bool a19] 36 _ rfl BA.out Try.underlying36 rfl (by kernel_rfl) ?_))
 ((with_reducible refine (laws_szStore.calls k A0 c0 l0 A1 c1 l1 a2 a3 a4 A5 c5 l5 A6 c6 l6 a7 a8 a9 A10 c10 l10 A11 c11 l11 A12 c12 l12 a13 A14 c14 l14 A15 c15 l15 A16 c16 l16 a17 a18 a19 1048576 t _ (Kd.C_below HR0.out (below_alloc (Below.refl _ _) _)) HC0.out (Kd.C_below HR1.out (below_alloc (Below.refl _ _) _)) HC1.out (Kd.C_below HR5.out (below_alloc (Below.refl _ _) _)) HC5.out (Kd.C_below HR6.out (below_alloc (Below.refl _ _) _)) HC6.out (Kd.C_below HR10.out (below_alloc (Below.refl _ _) _)) HC10.out (Kd.C_below HR11.out (below_alloc (Below.refl _ _) _)) HC11.out (Kd.C_below HR12.out (below_alloc (Below.refl _ _) _)) HC12.out (Kd.C_below HR14.out (below_alloc (Below.refl _ _) _)) HC14.out (Kd.C_below HR15.out (below_alloc (Below.refl _ _) _)) HC15.out (Kd.C_below HR16.out (below_alloc (Below.refl _ _) _)) HC16.out K1.out).mono ?_); rintro e w1 ⟨rfl, hb1⟩)
 have BA_ := Aside0.mk (blk_below BA.out hb1)
 clear BA
 have BA := BA_
 clear BA_
 have HB1 := Aside0.mk (below_step (below_alloc (Below.refl w.heap.size w) _) hb1)
 have hz1 : w.heap.size < w1.heap.size := blk_lt BA.out
 clear hb1
 go_wp2_with (((with_reducible refine gate_dst (N := 12) rfl ?_); refine ev_loadrow rfl 36 _ rfl w.heap.size #[.slice A0 l0.length c0, .slice A1 l1.length c1, .int .i64 a2, .int .i64 a3, .int .i64 a4, .slice A5 l5.length c5, .slice A6 l6.length c6, .int .i64 a7, .int .i64 a8, .int .i64 a9, .slice A10 l10.length c10, .slice A11 l11.length c11, .slice A12 l12.length c12, .int .i64 a13, .slice A14 l14.length c14, .slice A15 l15.length c15, .slice A16 l16.length c16, .int .i64 a17, .bool a18, .bool a19] 36 _ rfl BA.out Try.underlying36 rfl (by kernel_rfl) ?_))
 ((with_reducible refine (toStore_reads k A0 c0 l0 A1 c1 l1 a2 a3 a4 A5 c5 l5 A6 c6 l6 a7 a8 a9 A10 c10 l10 A11 c11 l11 A12 c12 l12 a13 A14 c14 l14 A15 c15 l15 A16 c16 l16 a17 a18 a19 m0 m1 m5 m6 m10 m11 m12 m14 m15 m16 _ (Kd.C_below HR0.out HB1.out) HC0.out (Kd.C_below HR1.out HB1.out) HC1.out (Kd.C_below HR5.out HB1.out) HC5.out (Kd.C_below HR6.out HB1.out) HC6.out (Kd.C_below HR10.out HB1.out) HC10.out (Kd.C_below HR11.out HB1.out) HC11.out (Kd.C_below HR12.out HB1.out) HC12.out (Kd.C_below HR14.out HB1.out) HC14.out (Kd.C_below HR15.out HB1.out) HC15.out (Kd.C_below HR16.out HB1.out) HC16.out KA.out KB.out KC.out KD.out).mono ?_); rintro e w2 ⟨ux0, ux1, ux5, ux6, ux10, ux11, ux12, ux14, ux15, ux16, rfl, sx0, sx1, sx5, sx6, sx10, sx11, sx12, sx14, sx15, sx16, hb2⟩)
 obtain ⟨Bx0, dx0, rfl, q, g⟩ := sx0
 have Lx0 := Aside0.mk q
 have Gx0 := Aside0.mk g
 clear q g
 obtain ⟨Bx1, dx1, rfl, q, g⟩ := sx1
 have Lx1 := Aside0.mk q
 have Gx1 := Aside0.mk g
 clear q g
 obtain ⟨Bx5, dx5, rfl, q, g⟩ := sx5
 have Lx5 := Aside0.mk q
 have Gx5 := Aside0.mk g
 clear q g
 obtain ⟨Bx6, dx6, rfl, q, g⟩ := sx6
 have Lx6 := Aside0.mk q
 have Gx6 := Aside0.mk g
 clear q g
 obtain ⟨Bx10, dx10, rfl, q, g⟩ := sx10
 have Lx10 := Aside0.mk q
 have Gx10 := Aside0.mk g
 clear q g
 obtain ⟨Bx11, dx11, rfl, q, g⟩ := sx11
 have Lx11 := Aside0.mk q
 have Gx11 := Aside0.mk g
 clear q g
 obtain ⟨Bx12, dx12, rfl, q, g⟩ := sx12
 have Lx12 := Aside0.mk q
 have Gx12 := Aside0.mk g
 clear q g
 obtain ⟨Bx14, dx14, rfl, q, g⟩ := sx14
 have Lx14 := Aside0.mk q
 have Gx14 := Aside0.mk g
 clear q g
 obtain ⟨Bx15, dx15, rfl, q, g⟩ := sx15
 have Lx15 := Aside0.mk q
 have Gx15 := Aside0.mk g
 clear q g
 obtain ⟨Bx16, dx16, rfl, q, g⟩ := sx16
 have Lx16 := Aside0.mk q
 have Gx16 := Aside0.mk g
 clear q g
 have BA_ := Aside0.mk (blk_below BA.out hb2)
 clear BA
 have BA := BA_
 clear BA_
 have HB2 := Aside0.mk (below_step HB1.out hb2)
 have hz2 : w.heap.size < w2.heap.size := blk_lt BA.out
 clear hb2
 go_wp2_with fail
 ((with_reducible refine (spec_OldestOf.calls k Bx0 dx0 m0 Bx1 dx1 m1 a2 a3 a4 Bx5 dx5 m5 Bx6 dx6 m6 a7 a8 a9 Bx10 dx10 m10 Bx11 dx11 m11 Bx12 dx12 m12 a13 Bx14 dx14 m14 Bx15 dx15 m15 Bx16 dx16 m16 a17 a18 a19 r _ Gx0.out Lx0.out Gx1.out Lx1.out Gx5.out Lx5.out Gx6.out Lx6.out Gx10.out Lx10.out Gx11.out Lx11.out Gx12.out Lx12.out Gx14.out Lx14.out Gx15.out Lx15.out Gx16.out Lx16.out K5.out).mono ?_); rintro e w3 ⟨rfl, hb3⟩)
 have BA_ := Aside0.mk (blk_below BA.out hb3)
 clear BA
 have BA := BA_
 clear BA_
 have HB3 := Aside0.mk (below_step HB2.out hb3)
 have hz3 : w.heap.size < w3.heap.size := blk_lt BA.out
 clear hb3
 clear Gx0 Lx0 Gx1 Lx1 Gx5 Lx5 Gx6 Lx6 Gx10 Lx10 Gx11 Lx11 Gx12 Lx12 Gx14 Lx14 Gx15 Lx15 Gx16 Lx16
 go_wp2_with (((with_reducible refine gate_dst (N := 15) rfl ?_); refine ev_loadrow rfl 36 _ rfl w.heap.size #[.slice A0 l0.length c0, .slice A1 l1.length c1, .int .i64 a2, .int .i64 a3, .int .i64 a4, .slice A5 l5.length c5, .slice A6 l6.length c6, .int .i64 a7, .int .i64 a8, .int .i64 a9, .slice A10 l10.length c10, .slice A11 l11.length c11, .slice A12 l12.length c12, .int .i64 a13, .slice A14 l14.length c14, .slice A15 l15.length c15, .slice A16 l16.length c16, .int .i64 a17, .bool a18, .bool a19] 36 _ rfl BA.out Try.underlying36 rfl (by kernel_rfl) ?_))
 ((with_reducible refine (toStore_reads k A0 c0 l0 A1 c1 l1 a2 a3 a4 A5 c5 l5 A6 c6 l6 a7 a8 a9 A10 c10 l10 A11 c11 l11 A12 c12 l12 a13 A14 c14 l14 A15 c15 l15 A16 c16 l16 a17 a18 a19 m0 m1 m5 m6 m10 m11 m12 m14 m15 m16 _ (Kd.C_below HR0.out HB3.out) HC0.out (Kd.C_below HR1.out HB3.out) HC1.out (Kd.C_below HR5.out HB3.out) HC5.out (Kd.C_below HR6.out HB3.out) HC6.out (Kd.C_below HR10.out HB3.out) HC10.out (Kd.C_below HR11.out HB3.out) HC11.out (Kd.C_below HR12.out HB3.out) HC12.out (Kd.C_below HR14.out HB3.out) HC14.out (Kd.C_below HR15.out HB3.out) HC15.out (Kd.C_below HR16.out HB3.out) HC16.out KA.out KB.out KC.out KD.out).mono ?_); rintro e w4 ⟨uy0, uy1, uy5, uy6, uy10, uy11, uy12, uy14, uy15, uy16, rfl, sy0, sy1, sy5, sy6, sy10, sy11, sy12, sy14, sy15, sy16, hb4⟩)
 obtain ⟨By0, dy0, rfl, q, g⟩ := sy0
 have Ly0 := Aside0.mk q
 have Gy0 := Aside0.mk g
 clear q g
 obtain ⟨By1, dy1, rfl, q, g⟩ := sy1
 have Ly1 := Aside0.mk q
 have Gy1 := Aside0.mk g
 clear q g
 obtain ⟨By5, dy5, rfl, q, g⟩ := sy5
 have Ly5 := Aside0.mk q
 have Gy5 := Aside0.mk g
 clear q g
 obtain ⟨By6, dy6, rfl, q, g⟩ := sy6
 have Ly6 := Aside0.mk q
 have Gy6 := Aside0.mk g
 clear q g
 obtain ⟨By10, dy10, rfl, q, g⟩ := sy10
 have Ly10 := Aside0.mk q
 have Gy10 := Aside0.mk g
 clear q g
 obtain ⟨By11, dy11, rfl, q, g⟩ := sy11
 have Ly11 := Aside0.mk q
 have Gy11 := Aside0.mk g
 clear q g
 obtain ⟨By12, dy12, rfl, q, g⟩ := sy12
 have Ly12 := Aside0.mk q
 have Gy12 := Aside0.mk g
 clear q g
 obtain ⟨By14, dy14, rfl, q, g⟩ := sy14
 have Ly14 := Aside0.mk q
 have Gy14 := Aside0.mk g
 clear q g
 obtain ⟨By15, dy15, rfl, q, g⟩ := sy15
 have Ly15 := Aside0.mk q
 have Gy15 := Aside0.mk g
 clear q g
 obtain ⟨By16, dy16, rfl, q, g⟩ := sy16
 have Ly16 := Aside0.mk q
 have Gy16 := Aside0.mk g
 clear q g
 have BA_ := Aside0.mk (blk_below BA.out hb4)
 clear BA
 have BA := BA_
 clear BA_
 have HB4 := Aside0.mk (below_step HB3.out hb4)
 have hz4 : w.heap.size < w4.heap.size := blk_lt BA.out
 clear hb4
 go_upto_region 7 with (((with_reducible refine gate_store (t := 51) (p := 5) rfl ?_); refine ev_storerow rfl 51 _ _ rfl rfl w4.heap.size [.slice By0 m0.length dy0, .slice By1 m1.length dy1, .int .i64 a2, .int .i64 a3, .int .i64 a4, .slice By5 m5.length dy5, .slice By6 m6.length dy6, .int .i64 a7, .int .i64 a8, .int .i64 a9, .slice By10 m10.length dy10, .slice By11 m11.length dy11, .slice By12 m12.length dy12, .int .i64 a13, .slice By14 m14.length dy14, .slice By15 m15.length dy15, .slice By16 m16.length dy16, .int .i64 a17, .bool a18, .bool a19] #[.slice none 0 0, .slice none 0 0, .int .i64 0, .int .i64 0, .int .i64 0, .slice none 0 0, .slice none 0 0, .int .i64 0, .int .i64 0, .int .i64 0, .slice none 0 0, .slice none 0 0, .slice none 0 0, .int .i64 0, .slice none 0 0, .slice none 0 0, .slice none 0 0, .int .i64 0, .bool false, .bool false] 51 rfl rfl (blk_new w4 (.cells #[.slice none 0 0, .slice none 0 0, .int .i64 0, .int .i64 0, .int .i64 0, .slice none 0 0, .slice none 0 0, .int .i64 0, .int .i64 0, .int .i64 0, .slice none 0 0, .slice none 0 0, .slice none 0 0, .int .i64 0, .slice none 0 0, .slice none 0 0, .slice none 0 0, .int .i64 0, .bool false, .bool false] 51)) (by kernel_rfl) (Nat.le_refl 20) rfl ?_))
 obtain ⟨w5, hw5⟩ : ∃ W, W = (puts (w4.alloc (.cells #[.slice none 0 0, .slice none 0 0, .int .i64 0, .int .i64 0, .int .i64 0, .slice none 0 0, .slice none 0 0, .int .i64 0, .int .i64 0, .int .i64 0, .slice none 0 0, .slice none 0 0, .slice none 0 0, .int .i64 0, .slice none 0 0, .slice none 0 0, .slice none 0 0, .int .i64 0, .bool false, .bool false] 51)) w4.heap.size 0 [.slice By0 m0.length dy0, .slice By1 m1.length dy1, .int .i64 a2, .int .i64 a3, .int .i64 a4, .slice By5 m5.length dy5, .slice By6 m6.length dy6, .int .i64 a7, .int .i64 a8, .int .i64 a9, .slice By10 m10.length dy10, .slice By11 m11.length dy11, .slice By12 m12.length dy12, .int .i64 a13, .slice By14 m14.length dy14, .slice By15 m15.length dy15, .slice By16 m16.length dy16, .int .i64 a17, .bool a18, .bool a19]) := ⟨_, rfl⟩
 have YB := Aside0.mk (show w5.heap[w4.heap.size]? = some (.cells (#[.slice By0 m0.length dy0, .slice By1 m1.length dy1, .int .i64 a2, .int .i64 a3, .int .i64 a4, .slice By5 m5.length dy5, .slice By6 m6.length dy6, .int .i64 a7, .int .i64 a8, .int .i64 a9, .slice By10 m10.length dy10, .slice By11 m11.length dy11, .slice By12 m12.length dy12, .int .i64 a13, .slice By14 m14.length dy14, .slice By15 m15.length dy15, .slice By16 m16.length dy16, .int .i64 a17, .bool a18, .bool a19] : Array Value) 51 (0, 0)) by rw [hw5]; exact puts_blk _ [.slice none 0 0, .slice none 0 0, .int .i64 0, .int .i64 0, .int .i64 0, .slice none 0 0, .slice none 0 0, .int .i64 0, .int .i64 0, .int .i64 0, .slice none 0 0, .slice none 0 0, .slice none 0 0, .int .i64 0, .slice none 0 0, .slice none 0 0, .slice none 0 0, .int .i64 0, .bool false, .bool false] _ 0 [.slice By0 m0.length dy0, .slice By1 m1.length dy1, .int .i64 a2, .int .i64 a3, .int .i64 a4, .slice By5 m5.length dy5, .slice By6 m6.length dy6, .int .i64 a7, .int .i64 a8, .int .i64 a9, .slice By10 m10.length dy10, .slice By11 m11.length dy11, .slice By12 m12.length dy12, .int .i64 a13, .slice By14 m14.length dy14, .slice By15 m15.length dy15, .slice By16 m16.length dy16, .int .i64 a17, .bool a18, .bool a19] (blk_new w4 _) (putsA_row _ _ [] rfl))
 have BA_ := Aside0.mk (show w5.heap[w.heap.size]? = some (.cells (#[.slice A0 l0.length c0, .slice A1 l1.length c1, .int .i64 a2, .int .i64 a3, .int .i64 a4, .slice A5 l5.length c5, .slice A6 l6.length c6, .int .i64 a7, .int .i64 a8, .int .i64 a9, .slice A10 l10.length c10, .slice A11 l11.length c11, .slice A12 l12.length c12, .int .i64 a13, .slice A14 l14.length c14, .slice A15 l15.length c15, .slice A16 l16.length c16, .int .i64 a17, .bool a18, .bool a19] : Array Value) 36 (0, 0)) by rw [hw5]; exact puts_far (by omega) _ _ _ (blk_alloc BA.out _))
 have hb5 : Below w4.heap.size w4 w5 := by rw [hw5]; exact puts_below (Nat.le_refl _) _ _ _ (below_alloc (Below.refl _ _) _)
 have HB5 := Aside0.mk (below_step HB4.out hb5)
 clear BA
 have BA := BA_
 clear BA_
 rw [← hw5]
 clear hw5
 have hz5 : w4.heap.size < w5.heap.size := blk_lt YB.out
 have V0 := Aside0.mk (Kd.C_below Gy0.out hb5)
 clear Gy0
 have Gy0 := V0
 clear V0
 have V1 := Aside0.mk (Kd.C_below Gy1.out hb5)
 clear Gy1
 have Gy1 := V1
 clear V1
 have V5 := Aside0.mk (Kd.C_below Gy5.out hb5)
 clear Gy5
 have Gy5 := V5
 clear V5
 have V6 := Aside0.mk (Kd.C_below Gy6.out hb5)
 clear Gy6
 have Gy6 := V6
 clear V6
 have V10 := Aside0.mk (Kd.C_below Gy10.out hb5)
 clear Gy10
 have Gy10 := V10
 clear V10
 have V11 := Aside0.mk (Kd.C_below Gy11.out hb5)
 clear Gy11
 have Gy11 := V11
 clear V11
 have V12 := Aside0.mk (Kd.C_below Gy12.out hb5)
 clear Gy12
 have Gy12 := V12
 clear V12
 have V14 := Aside0.mk (Kd.C_below Gy14.out hb5)
 clear Gy14
 have Gy14 := V14
 clear V14
 have V15 := Aside0.mk (Kd.C_below Gy15.out hb5)
 clear Gy15
 have Gy15 := V15
 clear V15
 have V16 := Aside0.mk (Kd.C_below Gy16.out hb5)
 clear Gy16
 have Gy16 := V16
 clear V16
 clear hb5
 go_wp2_with (((with_reducible refine gate_dst (N := 17) rfl ?_); refine ev_loadrow rfl 51 _ rfl w4.heap.size #[.slice By0 m0.length dy0, .slice By1 m1.length dy1, .int .i64 a2, .int .i64 a3, .int .i64 a4, .slice By5 m5.length dy5, .slice By6 m6.length dy6, .int .i64 a7, .int .i64 a8, .int .i64 a9, .slice By10 m10.length dy10, .slice By11 m11.length dy11, .slice By12 m12.length dy12, .int .i64 a13, .slice By14 m14.length dy14, .slice By15 m15.length dy15, .slice By16 m16.length dy16, .int .i64 a17, .bool a18, .bool a19] 51 _ rfl YB.out Try.underlying51 rfl (by kernel_rfl) ?_))
 ((with_reducible refine (impl_OldestOf.calls k By0 dy0 m0 By1 dy1 m1 a2 a3 a4 By5 dy5 m5 By6 dy6 m6 a7 a8 a9 By10 dy10 m10 By11 dy11 m11 By12 dy12 m12 a13 By14 dy14 m14 By15 dy15 m15 By16 dy16 m16 a17 a18 a19 r _ Gy0.out Ly0.out Gy1.out Ly1.out Gy5.out Ly5.out Gy6.out Ly6.out Gy10.out Ly10.out Gy11.out Ly11.out Gy12.out Ly12.out Gy14.out Ly14.out Gy15.out Ly15.out Gy16.out Ly16.out K6.out).mono ?_); rintro e w6 ⟨rfl, hb6⟩)
 have BA_ := Aside0.mk (blk_below BA.out hb6)
 clear BA
 have BA := BA_
 clear BA_
 have HB6 := Aside0.mk (below_step HB5.out hb6)
 have hz6 : w.heap.size < w6.heap.size := blk_lt BA.out
 have V0 := Aside0.mk (Kd.C_below Gy0.out hb6)
 clear Gy0
 have Gy0 := V0
 clear V0
 have V1 := Aside0.mk (Kd.C_below Gy1.out hb6)
 clear Gy1
 have Gy1 := V1
 clear V1
 have V5 := Aside0.mk (Kd.C_below Gy5.out hb6)
 clear Gy5
 have Gy5 := V5
 clear V5
 have V6 := Aside0.mk (Kd.C_below Gy6.out hb6)
 clear Gy6
 have Gy6 := V6
 clear V6
 have V10 := Aside0.mk (Kd.C_below Gy10.out hb6)
 clear Gy10
 have Gy10 := V10
 clear V10
 have V11 := Aside0.mk (Kd.C_below Gy11.out hb6)
 clear Gy11
 have Gy11 := V11
 clear V11
 have V12 := Aside0.mk (Kd.C_below Gy12.out hb6)
 clear Gy12
 have Gy12 := V12
 clear V12
 have V14 := Aside0.mk (Kd.C_below Gy14.out hb6)
 clear Gy14
 have Gy14 := V14
 clear V14
 have V15 := Aside0.mk (Kd.C_below Gy15.out hb6)
 clear Gy15
 have Gy15 := V15
 clear V15
 have V16 := Aside0.mk (Kd.C_below Gy16.out hb6)
 clear Gy16
 have Gy16 := V16
 clear V16
 have YB_ := Aside0.mk (blk_below YB.out hb6)
 clear YB
 have YB := YB_
 clear YB_
 clear hb6
 go_upto_region 10 with (fail)
 have BA_ := Aside0.mk (blk_below BA.out (Below.refl _ _).drew)
 clear BA
 have BA := BA_
 clear BA_
 have YB_ := Aside0.mk (blk_below YB.out (Below.refl _ _).drew)
 clear YB
 have YB := YB_
 clear YB_
 have HB6_ := Aside0.mk (below_step HB6.out (Below.refl _ _).drew)
 clear HB6
 have HB6 := HB6_
 clear HB6_
 have Gy0_ := Aside0.mk (Kd.C_below Gy0.out (Below.refl _ _).drew)
 clear Gy0
 have Gy0 := Gy0_
 clear Gy0_
 have Gy1_ := Aside0.mk (Kd.C_below Gy1.out (Below.refl _ _).drew)
 clear Gy1
 have Gy1 := Gy1_
 clear Gy1_
 have Gy5_ := Aside0.mk (Kd.C_below Gy5.out (Below.refl _ _).drew)
 clear Gy5
 have Gy5 := Gy5_
 clear Gy5_
 have Gy6_ := Aside0.mk (Kd.C_below Gy6.out (Below.refl _ _).drew)
 clear Gy6
 have Gy6 := Gy6_
 clear Gy6_
 have Gy10_ := Aside0.mk (Kd.C_below Gy10.out (Below.refl _ _).drew)
 clear Gy10
 have Gy10 := Gy10_
 clear Gy10_
 have Gy11_ := Aside0.mk (Kd.C_below Gy11.out (Below.refl _ _).drew)
 clear Gy11
 have Gy11 := Gy11_
 clear Gy11_
 have Gy12_ := Aside0.mk (Kd.C_below Gy12.out (Below.refl _ _).drew)
 clear Gy12
 have Gy12 := Gy12_
 clear Gy12_
 have Gy14_ := Aside0.mk (Kd.C_below Gy14.out (Below.refl _ _).drew)
 clear Gy14
 have Gy14 := Gy14_
 clear Gy14_
 have Gy15_ := Aside0.mk (Kd.C_below Gy15.out (Below.refl _ _).drew)
 clear Gy15
 have Gy15 := Gy15_
 clear Gy15_
 have Gy16_ := Aside0.mk (Kd.C_below Gy16.out (Below.refl _ _).drew)
 clear Gy16
 have Gy16 := Gy16_
 clear Gy16_
 refine seq_start oldest.ok10_0 (S := fun w' => w'.heap[w.heap.size]? = some (.cells (#[.slice A0 l0.length c0, .slice A1 l1.length c1, .int .i64 a2, .int .i64 a3, .int .i64 a4, .slice A5 l5.length c5, .slice A6 l6.length c6, .int .i64 a7, .int .i64 a8, .int .i64 a9, .slice A10 l10.length c10, .slice A11 l11.length c11, .slice A12 l12.length c12, .int .i64 a13, .slice A14 l14.length c14, .slice A15 l15.length c15, .slice A16 l16.length c16, .int .i64 a17, .bool a18, .bool a19] : Array Value) 36 (0, 0)) ∧ w'.heap[w4.heap.size]? = some (.cells (#[.slice By0 m0.length dy0, .slice By1 m1.length dy1, .int .i64 a2, .int .i64 a3, .int .i64 a4, .slice By5 m5.length dy5, .slice By6 m6.length dy6, .int .i64 a7, .int .i64 a8, .int .i64 a9, .slice By10 m10.length dy10, .slice By11 m11.length dy11, .slice By12 m12.length dy12, .int .i64 a13, .slice By14 m14.length dy14, .slice By15 m15.length dy15, .slice By16 m16.length dy16, .int .i64 a17, .bool a18, .bool a19] : Array Value) 51 (0, 0))) (by kernel_rfl) (fun _ _ _ _ h => h) ⟨BA.out, YB.out⟩ (fun hHeld => ?_)
 generalize w6.drew = wd at HB6 BA YB Gy0 Gy1 Gy5 Gy6 Gy10 Gy11 Gy12 Gy14 Gy15 Gy16 hHeld ⊢
 refine seq_t (v := .agg #[.slice By0 m0.length dy0, .slice By1 m1.length dy1, .int .i64 a2, .int .i64 a3, .int .i64 a4, .slice By5 m5.length dy5, .slice By6 m6.length dy6, .int .i64 a7, .int .i64 a8, .int .i64 a9, .slice By10 m10.length dy10, .slice By11 m11.length dy11, .slice By12 m12.length dy12, .int .i64 a13, .slice By14 m14.length dy14, .slice By15 m15.length dy15, .slice By16 m16.length dy16, .int .i64 a17, .bool a18, .bool a19]) (a' := ?a1_0) rfl rfl (Or.inl ⟨by rfl, ?hy0⟩) ?hp0 ?hk0
 case hy0 => (rintro w' ⟨s0, s1⟩; exact run_loadrow 51 _ rfl w4.heap.size #[.slice By0 m0.length dy0, .slice By1 m1.length dy1, .int .i64 a2, .int .i64 a3, .int .i64 a4, .slice By5 m5.length dy5, .slice By6 m6.length dy6, .int .i64 a7, .int .i64 a8, .int .i64 a9, .slice By10 m10.length dy10, .slice By11 m11.length dy11, .slice By12 m12.length dy12, .int .i64 a13, .slice By14 m14.length dy14, .slice By15 m15.length dy15, .slice By16 m16.length dy16, .int .i64 a17, .bool a18, .bool a19] 51 _ rfl s1 Try.underlying51 rfl (by kernel_rfl))
 case hp0 => (show Act.put _ (some _) _ = _; simp only [Act.put, List.setIfInBounds_toArray, List.set_cons_zero, List.set_cons_succ, i64_w, i32_w]; try rfl)
 refine seq_t (v := .agg #[.slice A0 l0.length c0, .slice A1 l1.length c1, .int .i64 a2, .int .i64 a3, .int .i64 a4, .slice A5 l5.length c5, .slice A6 l6.length c6, .int .i64 a7, .int .i64 a8, .int .i64 a9, .slice A10 l10.length c10, .slice A11 l11.length c11, .slice A12 l12.length c12, .int .i64 a13, .slice A14 l14.length c14, .slice A15 l15.length c15, .slice A16 l16.length c16, .int .i64 a17, .bool a18, .bool a19]) (a' := ?a1_1) rfl rfl (Or.inl ⟨by rfl, ?hy1⟩) ?hp1 ?hk1
 case hy1 => (rintro w' ⟨s0, s1⟩; exact run_loadrow 36 _ rfl w.heap.size #[.slice A0 l0.length c0, .slice A1 l1.length c1, .int .i64 a2, .int .i64 a3, .int .i64 a4, .slice A5 l5.length c5, .slice A6 l6.length c6, .int .i64 a7, .int .i64 a8, .int .i64 a9, .slice A10 l10.length c10, .slice A11 l11.length c11, .slice A12 l12.length c12, .int .i64 a13, .slice A14 l14.length c14, .slice A15 l15.length c15, .slice A16 l16.length c16, .int .i64 a17, .bool a18, .bool a19] 36 _ rfl s0 Try.underlying36 rfl (by kernel_rfl))
 case hp1 => (show Act.put _ (some _) _ = _; simp only [Act.put, List.setIfInBounds_toArray, List.set_cons_zero, List.set_cons_succ, i64_w, i32_w]; try rfl)
 refine seq_call rfl rfl Try.func13 (by kernel_rfl) rfl #[.agg #[.slice A0 l0.length c0, .slice A1 l1.length c1, .int .i64 a2, .int .i64 a3, .int .i64 a4, .slice A5 l5.length c5, .slice A6 l6.length c6, .int .i64 a7, .int .i64 a8, .int .i64 a9, .slice A10 l10.length c10, .slice A11 l11.length c11, .slice A12 l12.length c12, .int .i64 a13, .slice A14 l14.length c14, .slice A15 l15.length c15, .slice A16 l16.length c16, .int .i64 a17, .bool a18, .bool a19]] (by rfl) rfl (by (try simp only [List.map_toArray, List.map_cons, List.map_nil]); first | done | rfl) ?_
 with_reducible refine (toStore_reads k A0 c0 l0 A1 c1 l1 a2 a3 a4 A5 c5 l5 A6 c6 l6 a7 a8 a9 A10 c10 l10 A11 c11 l11 A12 c12 l12 a13 A14 c14 l14 A15 c15 l15 A16 c16 l16 a17 a18 a19 m0 m1 m5 m6 m10 m11 m12 m14 m15 m16 _ (Kd.C_below HR0.out HB6.out) HC0.out (Kd.C_below HR1.out HB6.out) HC1.out (Kd.C_below HR5.out HB6.out) HC5.out (Kd.C_below HR6.out HB6.out) HC6.out (Kd.C_below HR10.out HB6.out) HC10.out (Kd.C_below HR11.out HB6.out) HC11.out (Kd.C_below HR12.out HB6.out) HC12.out (Kd.C_below HR14.out HB6.out) HC14.out (Kd.C_below HR15.out HB6.out) HC15.out (Kd.C_below HR16.out HB6.out) HC16.out KA.out KB.out KC.out KD.out).mono ?_
 rintro e w7 ⟨uz0, uz1, uz5, uz6, uz10, uz11, uz12, uz14, uz15, uz16, rfl, sz0, sz1, sz5, sz6, sz10, sz11, sz12, sz14, sz15, sz16, hb7⟩
 obtain ⟨Bz0, dz0, rfl, q, g⟩ := sz0
 have Lz0 := Aside0.mk q
 have Gz0 := Aside0.mk g
 clear q g
 obtain ⟨Bz1, dz1, rfl, q, g⟩ := sz1
 have Lz1 := Aside0.mk q
 have Gz1 := Aside0.mk g
 clear q g
 obtain ⟨Bz5, dz5, rfl, q, g⟩ := sz5
 have Lz5 := Aside0.mk q
 have Gz5 := Aside0.mk g
 clear q g
 obtain ⟨Bz6, dz6, rfl, q, g⟩ := sz6
 have Lz6 := Aside0.mk q
 have Gz6 := Aside0.mk g
 clear q g
 obtain ⟨Bz10, dz10, rfl, q, g⟩ := sz10
 have Lz10 := Aside0.mk q
 have Gz10 := Aside0.mk g
 clear q g
 obtain ⟨Bz11, dz11, rfl, q, g⟩ := sz11
 have Lz11 := Aside0.mk q
 have Gz11 := Aside0.mk g
 clear q g
 obtain ⟨Bz12, dz12, rfl, q, g⟩ := sz12
 have Lz12 := Aside0.mk q
 have Gz12 := Aside0.mk g
 clear q g
 obtain ⟨Bz14, dz14, rfl, q, g⟩ := sz14
 have Lz14 := Aside0.mk q
 have Gz14 := Aside0.mk g
 clear q g
 obtain ⟨Bz15, dz15, rfl, q, g⟩ := sz15
 have Lz15 := Aside0.mk q
 have Gz15 := Aside0.mk g
 clear q g
 obtain ⟨Bz16, dz16, rfl, q, g⟩ := sz16
 have Lz16 := Aside0.mk q
 have Gz16 := Aside0.mk g
 clear q g
 have BA_ := Aside0.mk (blk_below BA.out hb7)
 clear BA
 have BA := BA_
 clear BA_
 have HB7 := Aside0.mk (below_step HB6.out hb7)
 have hz7 : w.heap.size < w7.heap.size := blk_lt BA.out
 have V0 := Aside0.mk (Kd.C_below Gy0.out hb7)
 clear Gy0
 have Gy0 := V0
 clear V0
 have V1 := Aside0.mk (Kd.C_below Gy1.out hb7)
 clear Gy1
 have Gy1 := V1
 clear V1
 have V5 := Aside0.mk (Kd.C_below Gy5.out hb7)
 clear Gy5
 have Gy5 := V5
 clear V5
 have V6 := Aside0.mk (Kd.C_below Gy6.out hb7)
 clear Gy6
 have Gy6 := V6
 clear V6
 have V10 := Aside0.mk (Kd.C_below Gy10.out hb7)
 clear Gy10
 have Gy10 := V10
 clear V10
 have V11 := Aside0.mk (Kd.C_below Gy11.out hb7)
 clear Gy11
 have Gy11 := V11
 clear V11
 have V12 := Aside0.mk (Kd.C_below Gy12.out hb7)
 clear Gy12
 have Gy12 := V12
 clear V12
 have V14 := Aside0.mk (Kd.C_below Gy14.out hb7)
 clear Gy14
 have Gy14 := V14
 clear V14
 have V15 := Aside0.mk (Kd.C_below Gy15.out hb7)
 clear Gy15
 have Gy15 := V15
 clear V15
 have V16 := Aside0.mk (Kd.C_below Gy16.out hb7)
 clear Gy16
 have Gy16 := V16
 clear V16
 have YB_ := Aside0.mk (blk_below YB.out hb7)
 clear YB
 have YB := YB_
 clear YB_
 clear hb7
 refine ⟨_, rfl, ⟨BA.out, YB.out⟩, (fun hHeld => ?_)⟩
 refine seq_norm (a' := ?_) ?_ ?_; rotate_left; (· show Act.put _ (some 24) _ = _; simp only [Act.put, List.setIfInBounds_toArray, List.set_cons_zero, List.set_cons_succ, i64_w, i32_w]; try rfl)
 refine seq_call rfl rfl Try.func15 (by kernel_rfl) rfl #[.agg #[.slice By0 m0.length dy0, .slice By1 m1.length dy1, .int .i64 a2, .int .i64 a3, .int .i64 a4, .slice By5 m5.length dy5, .slice By6 m6.length dy6, .int .i64 a7, .int .i64 a8, .int .i64 a9, .slice By10 m10.length dy10, .slice By11 m11.length dy11, .slice By12 m12.length dy12, .int .i64 a13, .slice By14 m14.length dy14, .slice By15 m15.length dy15, .slice By16 m16.length dy16, .int .i64 a17, .bool a18, .bool a19], .agg #[.slice Bz0 m0.length dz0, .slice Bz1 m1.length dz1, .int .i64 a2, .int .i64 a3, .int .i64 a4, .slice Bz5 m5.length dz5, .slice Bz6 m6.length dz6, .int .i64 a7, .int .i64 a8, .int .i64 a9, .slice Bz10 m10.length dz10, .slice Bz11 m11.length dz11, .slice Bz12 m12.length dz12, .int .i64 a13, .slice Bz14 m14.length dz14, .slice Bz15 m15.length dz15, .slice Bz16 m16.length dz16, .int .i64 a17, .bool a18, .bool a19]] (by rfl) rfl (by (try simp only [List.map_toArray, List.map_cons, List.map_nil]); first | done | rfl) ?_
 with_reducible refine (laws_eqStore.calls k By0 dy0 m0 By1 dy1 m1 a2 a3 a4 By5 dy5 m5 By6 dy6 m6 a7 a8 a9 By10 dy10 m10 By11 dy11 m11 By12 dy12 m12 a13 By14 dy14 m14 By15 dy15 m15 By16 dy16 m16 a17 a18 a19 Bz0 dz0 m0 Bz1 dz1 m1 a2 a3 a4 Bz5 dz5 m5 Bz6 dz6 m6 a7 a8 a9 Bz10 dz10 m10 Bz11 dz11 m11 Bz12 dz12 m12 a13 Bz14 dz14 m14 Bz15 dz15 m15 Bz16 dz16 m16 a17 a18 a19 true _ Gy0.out Ly0.out Gy1.out Ly1.out Gy5.out Ly5.out Gy6.out Ly6.out Gy10.out Ly10.out Gy11.out Ly11.out Gy12.out Ly12.out Gy14.out Ly14.out Gy15.out Ly15.out Gy16.out Ly16.out Gz0.out Lz0.out Gz1.out Lz1.out Gz5.out Lz5.out Gz6.out Lz6.out Gz10.out Lz10.out Gz11.out Lz11.out Gz12.out Lz12.out Gz14.out Lz14.out Gz15.out Lz15.out Gz16.out Lz16.out K7.out).mono ?_
 rintro e w8 ⟨rfl, hb8⟩
 have BA_ := Aside0.mk (blk_below BA.out hb8)
 clear BA
 have BA := BA_
 clear BA_
 have HB8 := Aside0.mk (below_step HB7.out hb8)
 have hz8 : w.heap.size < w8.heap.size := blk_lt BA.out
 have YB_ := Aside0.mk (blk_below YB.out hb8)
 clear YB
 have YB := YB_
 clear YB_
 clear hb8
 refine ⟨_, rfl, ⟨BA.out, YB.out⟩, (fun hHeld => ?_)⟩
 refine seq_norm (a' := ?_) ?_ ?_; rotate_left; (· show Act.put _ (some 25) _ = _; simp only [Act.put, List.setIfInBounds_toArray, List.set_cons_zero, List.set_cons_succ, i64_w, i32_w]; try rfl)
 (refine seq_p (v := ?_) (a' := ?_) rfl rfl (Or.inl ⟨by rfl, ?_⟩) ?_ ?_; rotate_left; (· intro w'; go_simp; with_reducible rfl); rotate_left; (· show Act.put _ (some _) _ = _; simp only [Act.put, List.setIfInBounds_toArray, List.set_cons_zero, List.set_cons_succ, i64_w, i32_w]; try rfl))
 refine seq_done ?_
 clear hHeld
 go_wp2
 go_ret
 exact ⟨rfl, HB8.out⟩
end Go.Proofs.Ytapholbdjccapaa.PFnExactTreeOk
