import Derived.Test.YtonhdiemjgdcnaaRE4
import Derived.Outline
import Derived.Deep.MidRow
set_option maxHeartbeats 64000000
set_option maxRecDepth 100000
set_option linter.unusedVariables false
set_option linter.unusedSimpArgs false
namespace Go.Proofs.Ytonhdiemjgdcnaa.PFnExactGivePage
open Go.RowKit Go.Proofs.YtonhdiemjgdcnaaW.PrintWords Go.Proofs.YtonhdiemjgdcnaaW.PrintLast Go.Proofs.YtonhdiemjgdcnaaW.PrintMore
attribute [local go_sem] max2_int min2_int max_two min_two max_three min_three max_four min_four
def laws_toFree.f (k : Nat) (a0_0 : Int) (l0_1 : List Int) : Option (Int × List Int) := (laws_toIntS.f k l0_1).bind fun t277 => (some (a0_0, t277))
theorem laws_toFree.calls (k : Nat) (a0_0 : Int) (A0_1 : Option Addr) (c0_1 : Nat) (l0_1 : List Int) (r1 : Int) (r2 : List Int) (w : World) (hr0_1 : Kd.C (Kd.int .i64) w A0_1 l0_1.length l0_1) (hc0_1 : l0_1.length ≤ c0_1) (h : laws_toFree.f k a0_0 l0_1 = some (r1, r2)) :
  Calls Try.prog 159 #[.agg #[.int .i64 a0_0, .slice A0_1 l0_1.length c0_1]] w fun e w' => ∃ v1_ : Value, e = .returned (.agg #[.int .i64 r1, v1_]) ∧ Kd.R (Kd.int .i64) 3 w' w.heap.size (fun _ => True) v1_ r2 ∧ Below w.heap.size w w' := by
 have hu183 := Try.underlying183
 have hu122 := Try.underlying122
 have HR0_1 := Aside0.mk hr0_1
 have HC0_1 := Aside0.mk hc0_1
 clear hr0_1 hc0_1
 have HB := Aside0.mk (Below.refl w.heap.size w)
 have H : ((laws_toIntS.f k l0_1).bind fun t277 => (some (a0_0, t277))) = some (r1, r2) := h
 clear h
 replace H := Option.bind_eq_some_iff.mp H
 obtain ⟨t277, A20, H⟩ := H
 replace H : (some (a0_0, t277)) = some (r1, r2) := H
 have A2 := Aside0.mk A20
 clear A20
 simp only [Option.some.injEq, Prod.mk.injEq] at H
 obtain ⟨rfl, rfl⟩ := H
 go_enter Try.func159, Try.ntmps159
 go_wp2_with (first | ((with_reducible refine gate_dst (N := 1) rfl ?_); refine box_event ?hg (N := 1) ?hd (cs := #[.int .i64 a0_0, .slice A0_1 l0_1.length c0_1]) (t := 183) ?hr ?_; (case hd => rfl); (case hg => rfl); (case hr => first | (go_simp; done) | (go_simp; rfl)); intro gb274 hg w3 hbox hb; have n0_ := Aside0.mk (below_step (by repeat (first | (with_reducible first | exact HB.out | apply below_alloc | apply pw_below_drewN | apply below_drew1) | exact HB.out)) hb); have n1_ := Aside0.mk (hbox); have n2_ := Aside0.mk ((by rw [hg]; exact (below_size (by repeat (first | (with_reducible first | exact HB.out | apply below_alloc | apply pw_below_drewN | apply below_drew1) | exact HB.out))) : w.heap.size ≤ gb274)); have n3_ := Aside0.mk ((by rw [hg]; exact (below_size (by repeat (first | (with_reducible first | exact HB.out | apply below_alloc | apply pw_below_drewN | apply below_drew1) | exact HB.out))) : w.heap.size ≤ gb274)); clear HB; have HB := n0_; have BK274 := n1_; have GW274 := n2_; have GE274 := n3_; clear n0_ n1_ n2_ n3_; clear hb hbox hg) | ((with_reducible refine gate_dst (N := 2) rfl ?_); refine box_event ?hg (N := 2) ?hd (cs := #[.int .i64 0, .slice none 0 0]) (t := 122) ?hr ?_; (case hd => rfl); (case hg => rfl); (case hr => first | (go_simp; done) | (go_simp; rfl)); intro gb275 hg w4 hbox hb; have n0_ := Aside0.mk (blk_below (g := gb274) (o := .cells #[.int .i64 a0_0, .slice A0_1 l0_1.length c0_1] 183 (0, 0)) (by (with_reducible repeat (first | refine blk_drewN ?_ _ | refine blk_drew ?_ | refine blk_alloc ?_ _)); exact BK274.out) hb); have n1_ := Aside0.mk (below_step (by repeat (first | (with_reducible first | exact HB.out | apply below_alloc | apply pw_below_drewN | apply below_drew1 | refine below_set ?_ GE274.out) | exact HB.out)) hb); have n2_ := Aside0.mk (hbox); have n3_ := Aside0.mk ((by rw [hg]; exact (below_size (by repeat (first | (with_reducible first | exact HB.out | apply below_alloc | apply pw_below_drewN | apply below_drew1 | refine below_set ?_ GE274.out) | exact HB.out))) : w.heap.size ≤ gb275)); have n4_ := Aside0.mk ((by rw [hg]; exact (below_size (by repeat (first | (with_reducible first | exact HB.out | apply below_alloc | apply pw_below_drewN | apply below_drew1 | refine below_set ?_ GE274.out) | exact HB.out))) : w.heap.size ≤ gb275)); have n5_ := Aside0.mk ((by rw [hg]; exact Nat.ne_of_lt (blk_lt (g := gb274) (o := .cells #[.int .i64 a0_0, .slice A0_1 l0_1.length c0_1] 183 (0, 0)) (by (with_reducible repeat (first | refine blk_drewN ?_ _ | refine blk_drew ?_ | refine blk_alloc ?_ _)); exact BK274.out)) : gb274 ≠ gb275)); have n6_ := Aside0.mk ((by rw [hg]; exact Nat.ne_of_gt (blk_lt (g := gb274) (o := .cells #[.int .i64 a0_0, .slice A0_1 l0_1.length c0_1] 183 (0, 0)) (by (with_reducible repeat (first | refine blk_drewN ?_ _ | refine blk_drew ?_ | refine blk_alloc ?_ _)); exact BK274.out)) : gb275 ≠ gb274)); clear BK274; clear HB; have BK274 := n0_; have HB := n1_; have BK275 := n2_; have GW275 := n3_; have GE275 := n4_; have NB274_275 := n5_; have NB275_274 := n6_; clear n0_ n1_ n2_ n3_ n4_ n5_ n6_; clear hb hbox hg) | ((with_reducible refine gate_dst (N := 3) rfl ?_); refine box_event ?hg (N := 3) ?hd (cs := #[.int .i64 0, .slice none 0 0]) (t := 122) ?hr ?_; (case hd => rfl); (case hg => rfl); (case hr => first | (go_simp; done) | (go_simp; rfl)); intro gb276 hg w5 hbox hb; have n0_ := Aside0.mk (blk_below (g := gb274) (o := .cells #[.int .i64 a0_0, .slice A0_1 l0_1.length c0_1] 183 (0, 0)) (by (with_reducible repeat (first | refine blk_drewN ?_ _ | refine blk_drew ?_ | refine blk_alloc ?_ _)); exact BK274.out) hb); have n1_ := Aside0.mk (blk_below (g := gb275) (o := .cells #[.int .i64 0, .slice none 0 0] 122 (0, 0)) (by (with_reducible repeat (first | refine blk_drewN ?_ _ | refine blk_drew ?_ | refine blk_alloc ?_ _)); exact BK275.out) hb); have n2_ := Aside0.mk (below_step (by repeat (first | (with_reducible first | exact HB.out | apply below_alloc | apply pw_below_drewN | apply below_drew1 | refine below_set ?_ GE274.out | refine below_set ?_ GE275.out) | exact HB.out)) hb); have n3_ := Aside0.mk (hbox); have n4_ := Aside0.mk ((by rw [hg]; exact (below_size (by repeat (first | (with_reducible first | exact HB.out | apply below_alloc | apply pw_below_drewN | apply below_drew1 | refine below_set ?_ GE274.out | refine below_set ?_ GE275.out) | exact HB.out))) : w.heap.size ≤ gb276)); have n5_ := Aside0.mk ((by rw [hg]; exact (below_size (by repeat (first | (with_reducible first | exact HB.out | apply below_alloc | apply pw_below_drewN | apply below_drew1 | refine below_set ?_ GE274.out | refine below_set ?_ GE275.out) | exact HB.out))) : w.heap.size ≤ gb276)); have n6_ := Aside0.mk ((by rw [hg]; exact Nat.ne_of_lt (blk_lt (g := gb274) (o := .cells #[.int .i64 a0_0, .slice A0_1 l0_1.length c0_1] 183 (0, 0)) (by (with_reducible repeat (first | refine blk_drewN ?_ _ | refine blk_drew ?_ | refine blk_alloc ?_ _)); exact BK274.out)) : gb274 ≠ gb276)); have n7_ := Aside0.mk ((by rw [hg]; exact Nat.ne_of_gt (blk_lt (g := gb274) (o := .cells #[.int .i64 a0_0, .slice A0_1 l0_1.length c0_1] 183 (0, 0)) (by (with_reducible repeat (first | refine blk_drewN ?_ _ | refine blk_drew ?_ | refine blk_alloc ?_ _)); exact BK274.out)) : gb276 ≠ gb274)); have n8_ := Aside0.mk ((by rw [hg]; exact Nat.ne_of_lt (blk_lt (g := gb275) (o := .cells #[.int .i64 0, .slice none 0 0] 122 (0, 0)) (by (with_reducible repeat (first | refine blk_drewN ?_ _ | refine blk_drew ?_ | refine blk_alloc ?_ _)); exact BK275.out)) : gb275 ≠ gb276)); have n9_ := Aside0.mk ((by rw [hg]; exact Nat.ne_of_gt (blk_lt (g := gb275) (o := .cells #[.int .i64 0, .slice none 0 0] 122 (0, 0)) (by (with_reducible repeat (first | refine blk_drewN ?_ _ | refine blk_drew ?_ | refine blk_alloc ?_ _)); exact BK275.out)) : gb276 ≠ gb275)); clear BK274; clear BK275; clear HB; have BK274 := n0_; have BK275 := n1_; have HB := n2_; have BK276 := n3_; have GW276 := n4_; have GE276 := n5_; have NB274_276 := n6_; have NB276_274 := n7_; have NB275_276 := n8_; have NB276_275 := n9_; clear n0_ n1_ n2_ n3_ n4_ n5_ n6_ n7_ n8_ n9_; clear hb hbox hg; have hnb6 := NB274_275.out; have hnc6 := NB275_274.out; have hnb7 := NB274_276.out; have hnc7 := NB276_274.out; have hcz8_0 : w5.cell? ⟨gb274, 0, none⟩ = some (.int .i64 a0_0) := (blk_cell BK274.out 0).trans rfl; have hcz8_1 : w5.cell? ⟨gb274, 1, none⟩ = some (.slice A0_1 l0_1.length c0_1) := (blk_cell BK274.out 1).trans rfl; have hfz8_0 := blk_frozen BK274.out 0; have hfz8_1 := blk_frozen BK274.out 1; have hnb9 := NB276_275.out; have hnc9 := NB275_276.out; have hcz10_0 : w5.cell? ⟨gb276, 0, none⟩ = some (.int .i64 0) := (blk_cell BK276.out 0).trans rfl; have hcz10_1 : w5.cell? ⟨gb276, 1, none⟩ = some (.slice none 0 0) := (blk_cell BK276.out 1).trans rfl; have hfz10_0 := blk_frozen BK276.out 0; have hfz10_1 := blk_frozen BK276.out 1) | ((with_reducible refine gate_callee (f := 48) rfl ?_); refine goesL_ (some 9) rfl rfl Try.func48 (by kernel_rfl) rfl #[.slice A0_1 l0_1.length c0_1] rfl (by (try simp only [List.map_toArray, List.map_cons, List.map_nil]); first | done | rfl | (simp only [List.length_drop, List.length_take]; rfl)) ?_; (with_reducible refine (laws_toIntS.calls k _ _ l0_1 t277 _ ?side1 ?side2 A2.out).mono ?_); (case side1 => exact Kd.C_below HR0_1.out (by repeat (first | (with_reducible first | exact HB.out | apply below_alloc | apply pw_below_drewN | apply below_drew1 | refine below_set ?_ GE274.out | refine below_set ?_ GE275.out | refine below_set ?_ GE276.out) | exact HB.out))); (case side2 => exact HC0_1.out); rintro e w11 ⟨v278, rfl, ho0, hb⟩; refine ⟨_, rfl, ?_⟩; (first | have rs_v278 := one_store (P := Try.prog) ho0 | have rs_v278 := one_store (P := Try.prog) (Kd.S_R ho0) | skip); have n0_ := Aside0.mk (Kd.R_lower ho0 (below_size (by repeat (first | (with_reducible first | exact HB.out | apply below_alloc | apply pw_below_drewN | apply below_drew1 | refine below_set ?_ GE274.out | refine below_set ?_ GE275.out | refine below_set ?_ GE276.out) | exact HB.out)))); have n1_ := Aside0.mk (blk_below (g := gb274) (o := .cells #[.int .i64 a0_0, .slice A0_1 l0_1.length c0_1] 183 (0, 0)) (by (with_reducible repeat (first | refine blk_drewN ?_ _ | refine blk_drew ?_ | refine blk_alloc ?_ _)); refine blk_far ?_ NB274_276.out _; (with_reducible repeat (first | refine blk_drewN ?_ _ | refine blk_drew ?_ | refine blk_alloc ?_ _)); exact BK274.out) hb); have n2_ := Aside0.mk (blk_below (g := gb275) (o := .cells #[.int .i64 0, .slice none 0 0] 122 (0, 0)) (by (with_reducible repeat (first | refine blk_drewN ?_ _ | refine blk_drew ?_ | refine blk_alloc ?_ _)); refine blk_far ?_ NB275_276.out _; (with_reducible repeat (first | refine blk_drewN ?_ _ | refine blk_drew ?_ | refine blk_alloc ?_ _)); exact BK275.out) hb); have n3_ := Aside0.mk (blk_below (g := gb276) (o := .cells #[.int .i64 a0_0, .slice none 0 0] 122 (0, 0)) (by (with_reducible repeat (first | refine blk_drewN ?_ _ | refine blk_drew ?_ | refine blk_alloc ?_ _)); refine blk_put (cs := #[.int .i64 0, .slice none 0 0]) ?_ 0 _ rfl; (with_reducible repeat (first | refine blk_drewN ?_ _ | refine blk_drew ?_ | refine blk_alloc ?_ _)); exact BK276.out) hb); have n4_ := Aside0.mk (below_step (by repeat (first | (with_reducible first | exact HB.out | apply below_alloc | apply pw_below_drewN | apply below_drew1 | refine below_set ?_ GE274.out | refine below_set ?_ GE275.out | refine below_set ?_ GE276.out) | exact HB.out)) hb); clear BK274; clear BK275; clear BK276; clear HB; have HO279 := n0_; have BK274 := n1_; have BK275 := n2_; have BK276 := n3_; have HB := n4_; clear n0_ n1_ n2_ n3_ n4_; (try clear hb); (try clear hb2); (try clear hk); (try clear hi); (try clear ho0); obtain ⟨Ao12, co12, eo12⟩ := Kd.R_slice HO279.out; subst eo12; have hcz13_0 : w11.cell? ⟨gb276, 0, none⟩ = some (.int .i64 a0_0) := (blk_cell BK276.out 0).trans rfl; have hcz13_1 : w11.cell? ⟨gb276, 1, none⟩ = some (.slice none 0 0) := (blk_cell BK276.out 1).trans rfl; have hfz13_0 := blk_frozen BK276.out 0; have hfz13_1 := blk_frozen BK276.out 1; have hcz14_0 : w11.cell? ⟨gb275, 0, none⟩ = some (.int .i64 0) := (blk_cell BK275.out 0).trans rfl; have hcz14_1 : w11.cell? ⟨gb275, 1, none⟩ = some (.slice none 0 0) := (blk_cell BK275.out 1).trans rfl; have hfz14_0 := blk_frozen BK275.out 0; have hfz14_1 := blk_frozen BK275.out 1))
 refine bodyPost_ret (results_cell_row rfl _ _ gb275 122 #[.int .i64 a0_0, .slice Ao12 t277.length co12] (0, 0) _ rfl (by (with_reducible repeat (first | refine blk_drewN ?_ _ | refine blk_drew ?_ | refine blk_alloc ?_ _)); refine blk_put (cs := #[.int .i64 a0_0, .slice none 0 0]) ?_ 1 _ rfl; (with_reducible repeat (first | refine blk_drewN ?_ _ | refine blk_drew ?_ | refine blk_alloc ?_ _)); refine blk_put (cs := #[.int .i64 0, .slice none 0 0]) ?_ 0 _ rfl; (with_reducible repeat (first | refine blk_drewN ?_ _ | refine blk_drew ?_ | refine blk_alloc ?_ _)); refine blk_far ?_ NB275_276.out _; (with_reducible repeat (first | refine blk_drewN ?_ _ | refine blk_drew ?_ | refine blk_alloc ?_ _)); exact BK275.out) Try.underlying122 rfl (by kernel_rfl)) rfl ?_
 exact ⟨_, by first | rfl | (simp [errW_none, errW_some] <;> rfl) | (simp [*, errW_none, errW_some] <;> rfl), by (with_reducible repeat (first | apply Kd.R_alloc | apply Kd.R_drewN | apply Kd.R_drew)); exact Kd.R_mono (Kd.R_far (p := ⟨gb275, 1, none⟩) (Kd.R_far (p := ⟨gb275, 0, none⟩) (Kd.R_far (p := ⟨gb276, 1, none⟩) (Kd.R_types (Kd.R_types HO279.out BK276.out (by decide)) BK275.out (by decide)) (fun _ hk => hk.1.2) (.slice Ao12 t277.length co12)) (fun _ hk => hk.2) (.int .i64 a0_0)) (fun _ hk => hk.2) (.slice Ao12 t277.length co12)) (fun _ hk => trivial), by repeat (first | (with_reducible first | exact HB.out | apply below_alloc | apply pw_below_drewN | apply below_drew1 | refine below_set ?_ GE274.out | refine below_set ?_ GE275.out | refine below_set ?_ GE276.out) | exact HB.out)⟩
def laws_toFreeS.l0 : Nat → List (S183) → List (S122) → Int → Option ((List (S122)))
 | 0, _, _, _ => none
 | k + 1, x0, x3, x4 => if x4 < (x0.length : Int) then (if 0 ≤ x4 then ((laws_toFree.f k ((rd_T183 x0 x4).f0) ((rd_T183 x0 x4).f1)).bind fun bt284 => (if x4 < (x3.length : Int) then (laws_toFreeS.l0 k x0 (x3.set (x4 : Int).toNat (⟨bt284.1, bt284.2⟩ : S122)) (wrap64 (x4 + 1))) else (none))) else (none)) else (some x3)
def laws_toFreeS.f (k : Nat) (l0 : List (S183)) : Option ((List (S122))) := if 0 ≤ (l0.length : Int) then (if ((l0.length : Int) : Int).toNat ≤ 8796093022208 then (laws_toFreeS.l0 k l0 (List.replicate ((l0.length : Int) : Int).toNat z122) 0) else (none)) else (none)
theorem laws_toFreeS.calls (k : Nat) (A0 : Option Addr) (c0 : Nat) (l0 : List (S183)) (r : List (S122)) (w : World) (hr0 : Kd.C k183 w A0 l0.length l0) (hc0 : l0.length ≤ c0) (h : laws_toFreeS.f k l0 = some r) :
  Calls Try.prog 133 #[.slice A0 l0.length c0] w fun e w' => ∃ v0_ : Value, e = .returned (v0_) ∧ Kd.S k122 122 w' w.heap.size (fun _ => True) v0_ r ∧ Below w.heap.size w w' := by
 have hu183 := Try.underlying183
 have hu122 := Try.underlying122
 have HR0 := Aside0.mk hr0
 have HC0 := Aside0.mk hc0
 clear hr0 hc0
 have HB := Aside0.mk (Below.refl w.heap.size w)
 have H : (if 0 ≤ (l0.length : Int) then (if ((l0.length : Int) : Int).toNat ≤ 8796093022208 then (laws_toFreeS.l0 k l0 (List.replicate ((l0.length : Int) : Int).toNat z122) 0) else (none)) else (none)) = some r := h
 clear h
 by_cases c2 : 0 ≤ (l0.length : Int)
 ·rw [if_pos c2] at H
  have c2b0 := eq_true c2
  have c2b1 : decide (0 ≤ (l0.length : Int)) = true := decide_eq_true c2
  clear c2
  by_cases c3 : ((l0.length : Int) : Int).toNat ≤ 8796093022208
  ·rw [if_pos c3] at H
   have c3b0 := eq_true c3
   have c3b1 : decide (((l0.length : Int) : Int).toNat ≤ 8796093022208) = true := decide_eq_true c3
   clear c3
   obtain ⟨y280, hy280⟩ : ∃ y_ : List (S122), y_ = (List.replicate ((l0.length : Int) : Int).toNat z122) := ⟨_, rfl⟩
   replace H : (laws_toFreeS.l0 k l0 y280 0) = some r := by first | (rw [hy280]; with_reducible exact H) | (have H2_ := (Option.bind_some _ _).symm.trans H; rw [hy280]; with_reducible exact H2_) | (have H2_ := (Option.bind_some _ _).symm.trans H; with_reducible exact H2_) | with_reducible exact H | (rw [hy280]; exact H) | exact H
   have Ny280 := Aside0.mk hy280
   clear hy280
   have H' := Aside0.mk H
   clear H
   go_enter Try.func133, Try.ntmps133
   go_wp2_with (first | ((with_reducible refine gate_dst (N := 7) rfl ?_); refine Kd.S_make k122 _ 122 rfl (N := 7) rfl 51 _ _ rfl (l0.length : Int) rfl rfl Try.underlying51 (.agg #[(.int .i64 0), (.slice none 0 0)]) 32 info122 rfl (by decide) (by omega) z122 (ok := fun _ => True) (okp := fun _ => True) (k122_mkM _ _ _ z122 (Kd.R_nil _ _ _ _ _)) (fun _ hk => hk) trivial (of_decide_eq_true (by with_reducible assumption)) (Nat.le_trans (Nat.mul_le_mul_right _ (of_decide_eq_true (by with_reducible assumption) : (l0.length : Int).toNat ≤ 8796093022208)) (by omega)) (Below.refl _ _) (Nat.le_refl _) ?_; intro v281 w4 ho5 hb hg_ hnew_; clear hg_ hnew_; (first | rw [← Ny280.out] at ho5 | (simp only [Int.reduceToNat] at ho5; rw [← Ny280.out] at ho5)); have n0_ := Aside0.mk (Kd.S_lower ho5 (below_size (by repeat (first | (with_reducible first | exact HB.out | apply below_alloc | apply pw_below_drewN | apply below_drew1) | exact HB.out)))); have n1_ := Aside0.mk (below_step (by repeat (first | (with_reducible first | exact HB.out | apply below_alloc | apply pw_below_drewN | apply below_drew1) | exact HB.out)) hb); clear HB; have HO282 := n0_; have HB := n1_; clear n0_ n1_; clear hb ho5))
   go_loopg [4] k (fun kq v4 w' => ∃ (x3_1 : List (S122)) (x4_1 : Int), v4 = .int .i64 x4_1 ∧ Aside0 (laws_toFreeS.l0 kq l0 x3_1 x4_1 = some r) ∧ Aside0 (kq ≤ k) ∧ Aside0 (Kd.S k122 122 w' w.heap.size (fun _ => True) v281 x3_1) ∧ Aside0 (Below w.heap.size w w'))
   case atStart => exact ⟨(y280), (0), (by first | rfl | (simp; done) | (simp [*]; done)), H', ⟨Nat.le_refl _⟩, ⟨by (with_reducible repeat (first | apply Kd.S_alloc | apply Kd.S_drewN | apply Kd.S_drew)); exact HO282.out⟩, ⟨by repeat (first | (with_reducible first | exact HB.out | apply below_alloc | apply pw_below_drewN | apply below_drew1) | exact HB.out)⟩⟩
   case round =>
    clear H'
    try clear c2
    try clear c2b0
    try clear c2b1
    try clear c3
    try clear c3b0
    try clear c3b1
    obtain ⟨x3_1, x4_1, rfl, HA, HK1, HO_3, HB⟩ := hrel
    cases gk with
    | zero => exact absurd HA.out (by simp [laws_toFreeS.l0])
    | succ k1 =>
     have H := HA.out
     clear HA
     simp only [laws_toFreeS.l0] at H
     by_cases c6 : x4_1 < (l0.length : Int)
     ·rw [if_pos c6] at H
      have c6b0 : decide (x4_1 < (l0.length : Int)) = true := decide_eq_true c6
      clear c6
      by_cases c7 : 0 ≤ x4_1
      ·rw [if_pos c7] at H
       have c7b0 : decide (0 ≤ x4_1) = true := decide_eq_true c7
       clear c7
       replace H := Option.bind_eq_some_iff.mp H
       obtain ⟨⟨t284, t285⟩, A80, H⟩ := H
       replace H : (if x4_1 < (x3_1.length : Int) then (laws_toFreeS.l0 k1 l0 (x3_1.set (x4_1 : Int).toNat (⟨t284, t285⟩ : S122)) (wrap64 (x4_1 + 1))) else (none)) = some r := H
       have A8 := Aside0.mk A80
       clear A80
       by_cases c9 : x4_1 < (x3_1.length : Int)
       ·rw [if_pos c9] at H
        have c9b0 : decide (x4_1 < (x3_1.length : Int)) = true := decide_eq_true c9
        clear c9
        obtain ⟨y288, hy288⟩ : ∃ y_ : List (S122), y_ = (x3_1.set (x4_1 : Int).toNat (⟨t284, t285⟩ : S122)) := ⟨_, rfl⟩
        replace H : (laws_toFreeS.l0 k1 l0 y288 (wrap64 (x4_1 + 1))) = some r := by first | (rw [hy288]; with_reducible exact H) | (have H2_ := (Option.bind_some _ _).symm.trans H; rw [hy288]; with_reducible exact H2_) | (have H2_ := (Option.bind_some _ _).symm.trans H; with_reducible exact H2_) | with_reducible exact H | (rw [hy288]; exact H) | exact H
        have Ny288 := Aside0.mk hy288
        clear hy288
        have H' := Aside0.mk H
        clear H
        have p283 : 0 ≤ (x4_1 : Int) := of_decide_eq_true (by with_reducible assumption)
        have q283 : x4_1 < (l0.length : Int) := of_decide_eq_true (by with_reducible assumption)
        obtain ⟨ad283, A283_1, c283_1, e283, hx283_0, hx283_1, hl283_1, hi283_1⟩ := at_T183 HR0.out x4_1 p283 q283
        cases e283
        replace hx283_0 := (HB.out.cell (World.block_lt_of_cell? w _ hx283_0)).trans hx283_0
        replace hx283_1 := (HB.out.cell (World.block_lt_of_cell? w _ hx283_1)).trans hx283_1
        have HR283_1 := Aside0.mk hi283_1
        have HC283_1 := Aside0.mk hl283_1
        clear hi283_1 hl283_1
        replace p283 := eq_true p283
        replace q283 := eq_true q283
        go_wp2_with (first | ((with_reducible refine gate_callee (f := 159) rfl ?_); refine goesL_ (some 20) rfl rfl Try.func159 (by kernel_rfl) rfl #[.agg #[.int .i64 ((rd_T183 l0 x4_1).f0), .slice A283_1 ((rd_T183 l0 x4_1).f1).length c283_1]] rfl (by (try simp only [List.map_toArray, List.map_cons, List.map_nil]); first | done | rfl | (simp only [List.length_drop, List.length_take]; rfl)) ?_; (with_reducible refine (laws_toFree.calls k1 ((rd_T183 l0 x4_1).f0) _ _ ((rd_T183 l0 x4_1).f1) t284 t285 _ ?side1 ?side2 A8.out).mono ?_); (case side1 => repeat (first | exact (Kd.C_below HR283_1.out HB.out) | (with_reducible refine Kd.C_alloc ?_ _) | (with_reducible refine Kd.C_drewN ?_ _) | (with_reducible refine Kd.C_drew ?_))); (case side2 => exact HC283_1.out); rintro e w11 ⟨v286, rfl, ho0, hb⟩; refine ⟨_, rfl, ?_⟩; (first | have rs_v286 := one_store (P := Try.prog) ho0 | have rs_v286 := one_store (P := Try.prog) (Kd.S_R ho0) | skip); have n0_ := Aside0.mk (Kd.S_elder' (by (with_reducible repeat (first | apply Kd.S_alloc | apply Kd.S_drewN | apply Kd.S_drew)); exact HO_3.out) (Kd.R_base ho0) hb); have n1_ := Aside0.mk (Kd.R_lower ho0 (below_size (by repeat (first | (with_reducible first | exact HB.out | apply below_alloc | apply pw_below_drewN | apply below_drew1) | exact HB.out)))); have n2_ := Aside0.mk (below_step (by repeat (first | (with_reducible first | exact HB.out | apply below_alloc | apply pw_below_drewN | apply below_drew1) | exact HB.out)) hb); clear HO_3; clear HB; have HO_3 := n0_; have HO287 := n1_; have HB := n2_; clear n0_ n1_ n2_; (try clear hb); (try clear hb2); (try clear hk); (try clear hi); (try clear ho0); have p10 : 0 ≤ (x4_1 : Int) := of_decide_eq_true (by with_reducible assumption); have q10 : (x4_1 : Int) < ((x3_1.length : Int) : Int) := of_decide_eq_true (by with_reducible assumption); obtain ⟨go10, co10, eo10, gb10, gl10, cl10, HG10⟩ := Kd.S_form HO_3.out (by omega); (first | cases eo10 | (injection eo10 with ea_ en_ ec_; (first | subst ea_ | (injection ea_ with ea_; subst ea_)); subst ec_; clear en_)); have GB10 := Aside0.mk gb10; have GG10 := Aside0.mk HG10; clear gb10 gl10 HG10; obtain ⟨_, ce10, hcl10, hM10, hcc10, hfr10, _, _⟩ := Kd.S_elem HO_3.out z122 (x4_1 : Int) p10 q10; obtain ⟨ve10_1, rfl, ge10_1⟩ := k122_openM hM10; have hx10_0 : w11.cell? ⟨go10, (x4_1 : Int).toNat * 2, none⟩ = some (.int .i64 ((rd_T122 x3_1 x4_1).f0)) := hcc10 0 _ rfl; have hx10_1 : w11.cell? ⟨go10, (x4_1 : Int).toNat * 2 + 1, none⟩ = some (ve10_1) := hcc10 1 _ rfl; have hf10_0 : w11.frozen? ⟨go10, (x4_1 : Int).toNat * 2, none⟩ = false := hfr10 0; have hf10_1 : w11.frozen? ⟨go10, (x4_1 : Int).toNat * 2 + 1, none⟩ = false := hfr10 1; clear hcl10 hcc10 hfr10 hM10; replace p10 := eq_true p10; replace q10 := eq_true q10; have n_ := Aside0.mk (Kd.S_mono (ok' := (fun k_ => some k_ ≠ (v286 : Value).ownBlock)) HO_3.out (fun k_ hk => hk.2)); clear HO_3; have HO_3 := n_; clear n_; have HX12 := Aside0.mk (show Kd.S k122 122 w11 w.heap.size (fun k_ => ((fun _ => True)) k_ ∧ ¬ ((fun k_ => some k_ = (v286 : Value).ownBlock)) k_) (.slice (some ⟨go10, 0, none⟩) x3_1.length co10) x3_1 from (by (with_reducible repeat (first | apply Kd.S_alloc | apply Kd.S_drewN | apply Kd.S_drew)); exact Kd.S_mono HO_3.out (fun k_ hk => ⟨trivial, fun e_ => hk e_⟩))); obtain ⟨oki12, ce12, hcl12, hM12, hcc12, hfr12, hoki12, hH12⟩ := Kd.S_elem HX12.out z122 (x4_1 : Int) (of_decide_eq_true (by with_reducible assumption)) (by have h_ : (x4_1 : Int) < ((x3_1.length : Int) : Int) := of_decide_eq_true (by with_reducible assumption); first | exact h_ | (have e_ := (Kd.S_reads' HO_3.out).1; omega) | simpa using h_); obtain ⟨ve12_1, rfl, ge12_1⟩ := k122_openM hM12; have HP12 := Kd.S_seg hH12 (of_decide_eq_true (by with_reducible assumption)) (by have h_ : (x4_1 : Int) < ((x3_1.length : Int) : Int) := of_decide_eq_true (by with_reducible assumption); first | exact h_ | (have e_ := (Kd.S_reads' HO_3.out).1; omega) | simpa using h_) (seg := [.int .i64 t284, v286]) (j := 0) (show 2 ≤ 2 from by decide) (x' := (⟨t284, t285⟩ : S122)) (k122_mkM _ _ _ (⟨t284, t285⟩ : S122) (Kd.R_mono (Kd.R_tight rfl (Kd.R_mono (ok' := fun k_ => ((fun _ => True)) k_ ∧ k_ ≠ go10) (Kd.R_apart' (HO287.out) (Kd.S_typed HO_3.out) (by decide)) (fun k_ hk => ⟨trivial, fun e_ => (hk.2) (by rw [e_]; rfl)⟩))) (fun _ h_ => Or.inr (h_)))) (fun _ hk => hk) (fun k_ hk_ => ((Kd.R_mono (ok' := fun k_ => ((fun _ => True)) k_ ∧ k_ ≠ go10) (Kd.R_apart' (HO287.out) (Kd.S_typed HO_3.out) (by decide)) (fun k_ hk => ⟨trivial, fun e_ => (hk.2) (by rw [e_]; rfl)⟩))).1 k_ hk_.symm); have hx12_0 := hcc12 0 _ rfl; (try simp only [show (k122).sz = 2 from rfl, Nat.mul_one, Nat.add_zero] at hx12_0); have hf12_0 := hfr12 0; (try simp only [show (k122).sz = 2 from rfl, Nat.mul_one, Nat.add_zero] at hf12_0); have hx12_1 := hcc12 1 _ rfl; (try simp only [show (k122).sz = 2 from rfl, Nat.mul_one, Nat.add_zero] at hx12_1); have hf12_1 := hfr12 1; (try simp only [show (k122).sz = 2 from rfl, Nat.mul_one, Nat.add_zero] at hf12_1); clear hcl12 hcc12 hfr12 hM12 hoki12 hH12) | ((with_reducible refine gate_store (t := 122) (p := 21) rfl ?_); refine store_event (t := 122) (p := 21) (v := ?vo_w13) (w1 := ((w11.setCell ⟨go10, (x4_1 : Int).toNat * 2, none⟩ (.int .i64 t284)).setCell ⟨go10, (x4_1 : Int).toNat * 2 + 1, none⟩ (v286))) ?hg ?ho ?hn ?hr ?_; (case ho => rfl); (case hg => rfl); (case hn => rfl); (case hr => first | (go_simp; done) | (go_simp; rfl)); intro w13 hw; have hg : w11.grownBy w13 (some go10) := (by rw [hw]; exact HP12.2); have hp_ : Kd.S k122 122 w13 w.heap.size (fun _ => True) (.slice (some ⟨go10, 0, none⟩) x3_1.length co10) y288 := (by rw [hw, Ny288.out]; exact HP12.1); clear HP12; have n0_ := Aside0.mk (hp_); have n1_ := Aside0.mk ((by rw [hw]; exact below_set (below_set (HB.out) GB10.out) GB10.out : Below w.heap.size w w13)); clear HO_3; clear HB; clear HO287; have HO_3 := n0_; have HB := n1_; clear n0_ n1_; clear hg hw hp_))
        go_roundg k1
        case measure => have := HK1.out; omega
        case rel => exact ⟨(y288), (wrap64 (x4_1 + 1)), (by first | rfl | (simp; done) | (simp [*]; done)), H', ⟨by have := HK1.out; omega⟩, ⟨by (with_reducible repeat (first | apply Kd.S_alloc | apply Kd.S_drewN | apply Kd.S_drew)); exact HO_3.out⟩, ⟨by repeat (first | (with_reducible first | exact HB.out | apply below_alloc | apply pw_below_drewN | apply below_drew1) | exact HB.out)⟩⟩
       ·rw [if_neg c9] at H
        exact absurd H (by simp)
      ·rw [if_neg c7] at H
       exact absurd H (by simp)
     ·rw [if_neg c6] at H
      have c6b0 : decide (x4_1 < (l0.length : Int)) = false := decide_eq_false c6
      clear c6
      obtain rfl := Option.some.inj H
      go_wp2
      go_ret
      exact ⟨_, by first | rfl | (simp [errW_none, errW_some] <;> rfl) | (simp [*, errW_none, errW_some] <;> rfl), by (with_reducible repeat (first | apply Kd.S_alloc | apply Kd.S_drewN | apply Kd.S_drew)); exact HO_3.out, by repeat (first | (with_reducible first | exact HB.out | apply below_alloc | apply pw_below_drewN | apply below_drew1) | exact HB.out)⟩
  ·rw [if_neg c3] at H
   exact absurd H (by simp)
 ·rw [if_neg c2] at H
  exact absurd H (by simp)
def laws_toMeta.f (k : Nat) (a0_0 : Int) (a0_1 : Int) (a0_2 : Int) (l0_3 : List (S183)) : Option (Int × Int × Int × (List (S122))) := (laws_toFreeS.f k l0_3).bind fun t292 => (some (a0_0, a0_1, a0_2, t292))
theorem laws_toMeta.calls (k : Nat) (a0_0 : Int) (a0_1 : Int) (a0_2 : Int) (A0_3 : Option Addr) (c0_3 : Nat) (l0_3 : List (S183)) (r1 : Int) (r2 : Int) (r3 : Int) (r4 : List (S122)) (w : World) (hr0_3 : Kd.C k183 w A0_3 l0_3.length l0_3) (hc0_3 : l0_3.length ≤ c0_3) (h : laws_toMeta.f k a0_0 a0_1 a0_2 l0_3 = some (r1, r2, r3, r4)) :
  Calls Try.prog 80 #[.agg #[.int .i64 a0_0, .int .i64 a0_1, .int .i64 a0_2, .slice A0_3 l0_3.length c0_3]] w fun e w' => ∃ v3_ : Value, e = .returned (.agg #[.int .i64 r1, .int .i64 r2, .int .i64 r3, v3_]) ∧ Kd.S k122 122 w' w.heap.size (fun _ => True) v3_ r4 ∧ Below w.heap.size w w' := by
 have hu69 := Try.underlying69
 have hu53 := Try.underlying53
 have HR0_3 := Aside0.mk hr0_3
 have HC0_3 := Aside0.mk hc0_3
 clear hr0_3 hc0_3
 have HB := Aside0.mk (Below.refl w.heap.size w)
 have H : ((laws_toFreeS.f k l0_3).bind fun t292 => (some (a0_0, a0_1, a0_2, t292))) = some (r1, r2, r3, r4) := h
 clear h
 replace H := Option.bind_eq_some_iff.mp H
 obtain ⟨t292, A20, H⟩ := H
 replace H : (some (a0_0, a0_1, a0_2, t292)) = some (r1, r2, r3, r4) := H
 have A2 := Aside0.mk A20
 clear A20
 simp only [Option.some.injEq, Prod.mk.injEq] at H
 obtain ⟨rfl, rfl, rfl, rfl⟩ := H
 go_enter Try.func80, Try.ntmps80
 go_wp2_with (first | ((with_reducible refine gate_dst (N := 1) rfl ?_); refine box_event ?hg (N := 1) ?hd (cs := #[.int .i64 a0_0, .int .i64 a0_1, .int .i64 a0_2, .slice A0_3 l0_3.length c0_3]) (t := 69) ?hr ?_; (case hd => rfl); (case hg => rfl); (case hr => first | (go_simp; done) | (go_simp; rfl)); intro gb289 hg w3 hbox hb; have n0_ := Aside0.mk (below_step (by repeat (first | (with_reducible first | exact HB.out | apply below_alloc | apply pw_below_drewN | apply below_drew1) | exact HB.out)) hb); have n1_ := Aside0.mk (hbox); have n2_ := Aside0.mk ((by rw [hg]; exact (below_size (by repeat (first | (with_reducible first | exact HB.out | apply below_alloc | apply pw_below_drewN | apply below_drew1) | exact HB.out))) : w.heap.size ≤ gb289)); have n3_ := Aside0.mk ((by rw [hg]; exact (below_size (by repeat (first | (with_reducible first | exact HB.out | apply below_alloc | apply pw_below_drewN | apply below_drew1) | exact HB.out))) : w.heap.size ≤ gb289)); clear HB; have HB := n0_; have BK289 := n1_; have GW289 := n2_; have GE289 := n3_; clear n0_ n1_ n2_ n3_; clear hb hbox hg) | ((with_reducible refine gate_dst (N := 2) rfl ?_); refine box_event ?hg (N := 2) ?hd (cs := #[.int .i64 0, .int .i64 0, .int .i64 0, .slice none 0 0]) (t := 53) ?hr ?_; (case hd => rfl); (case hg => rfl); (case hr => first | (go_simp; done) | (go_simp; rfl)); intro gb290 hg w4 hbox hb; have n0_ := Aside0.mk (blk_below (g := gb289) (o := .cells #[.int .i64 a0_0, .int .i64 a0_1, .int .i64 a0_2, .slice A0_3 l0_3.length c0_3] 69 (0, 0)) (by (with_reducible repeat (first | refine blk_drewN ?_ _ | refine blk_drew ?_ | refine blk_alloc ?_ _)); exact BK289.out) hb); have n1_ := Aside0.mk (below_step (by repeat (first | (with_reducible first | exact HB.out | apply below_alloc | apply pw_below_drewN | apply below_drew1 | refine below_set ?_ GE289.out) | exact HB.out)) hb); have n2_ := Aside0.mk (hbox); have n3_ := Aside0.mk ((by rw [hg]; exact (below_size (by repeat (first | (with_reducible first | exact HB.out | apply below_alloc | apply pw_below_drewN | apply below_drew1 | refine below_set ?_ GE289.out) | exact HB.out))) : w.heap.size ≤ gb290)); have n4_ := Aside0.mk ((by rw [hg]; exact (below_size (by repeat (first | (with_reducible first | exact HB.out | apply below_alloc | apply pw_below_drewN | apply below_drew1 | refine below_set ?_ GE289.out) | exact HB.out))) : w.heap.size ≤ gb290)); have n5_ := Aside0.mk ((by rw [hg]; exact Nat.ne_of_lt (blk_lt (g := gb289) (o := .cells #[.int .i64 a0_0, .int .i64 a0_1, .int .i64 a0_2, .slice A0_3 l0_3.length c0_3] 69 (0, 0)) (by (with_reducible repeat (first | refine blk_drewN ?_ _ | refine blk_drew ?_ | refine blk_alloc ?_ _)); exact BK289.out)) : gb289 ≠ gb290)); have n6_ := Aside0.mk ((by rw [hg]; exact Nat.ne_of_gt (blk_lt (g := gb289) (o := .cells #[.int .i64 a0_0, .int .i64 a0_1, .int .i64 a0_2, .slice A0_3 l0_3.length c0_3] 69 (0, 0)) (by (with_reducible repeat (first | refine blk_drewN ?_ _ | refine blk_drew ?_ | refine blk_alloc ?_ _)); exact BK289.out)) : gb290 ≠ gb289)); clear BK289; clear HB; have BK289 := n0_; have HB := n1_; have BK290 := n2_; have GW290 := n3_; have GE290 := n4_; have NB289_290 := n5_; have NB290_289 := n6_; clear n0_ n1_ n2_ n3_ n4_ n5_ n6_; clear hb hbox hg) | ((with_reducible refine gate_dst (N := 3) rfl ?_); refine box_event ?hg (N := 3) ?hd (cs := #[.int .i64 0, .int .i64 0, .int .i64 0, .slice none 0 0]) (t := 53) ?hr ?_; (case hd => rfl); (case hg => rfl); (case hr => first | (go_simp; done) | (go_simp; rfl)); intro gb291 hg w5 hbox hb; have n0_ := Aside0.mk (blk_below (g := gb289) (o := .cells #[.int .i64 a0_0, .int .i64 a0_1, .int .i64 a0_2, .slice A0_3 l0_3.length c0_3] 69 (0, 0)) (by (with_reducible repeat (first | refine blk_drewN ?_ _ | refine blk_drew ?_ | refine blk_alloc ?_ _)); exact BK289.out) hb); have n1_ := Aside0.mk (blk_below (g := gb290) (o := .cells #[.int .i64 0, .int .i64 0, .int .i64 0, .slice none 0 0] 53 (0, 0)) (by (with_reducible repeat (first | refine blk_drewN ?_ _ | refine blk_drew ?_ | refine blk_alloc ?_ _)); exact BK290.out) hb); have n2_ := Aside0.mk (below_step (by repeat (first | (with_reducible first | exact HB.out | apply below_alloc | apply pw_below_drewN | apply below_drew1 | refine below_set ?_ GE289.out | refine below_set ?_ GE290.out) | exact HB.out)) hb); have n3_ := Aside0.mk (hbox); have n4_ := Aside0.mk ((by rw [hg]; exact (below_size (by repeat (first | (with_reducible first | exact HB.out | apply below_alloc | apply pw_below_drewN | apply below_drew1 | refine below_set ?_ GE289.out | refine below_set ?_ GE290.out) | exact HB.out))) : w.heap.size ≤ gb291)); have n5_ := Aside0.mk ((by rw [hg]; exact (below_size (by repeat (first | (with_reducible first | exact HB.out | apply below_alloc | apply pw_below_drewN | apply below_drew1 | refine below_set ?_ GE289.out | refine below_set ?_ GE290.out) | exact HB.out))) : w.heap.size ≤ gb291)); have n6_ := Aside0.mk ((by rw [hg]; exact Nat.ne_of_lt (blk_lt (g := gb289) (o := .cells #[.int .i64 a0_0, .int .i64 a0_1, .int .i64 a0_2, .slice A0_3 l0_3.length c0_3] 69 (0, 0)) (by (with_reducible repeat (first | refine blk_drewN ?_ _ | refine blk_drew ?_ | refine blk_alloc ?_ _)); exact BK289.out)) : gb289 ≠ gb291)); have n7_ := Aside0.mk ((by rw [hg]; exact Nat.ne_of_gt (blk_lt (g := gb289) (o := .cells #[.int .i64 a0_0, .int .i64 a0_1, .int .i64 a0_2, .slice A0_3 l0_3.length c0_3] 69 (0, 0)) (by (with_reducible repeat (first | refine blk_drewN ?_ _ | refine blk_drew ?_ | refine blk_alloc ?_ _)); exact BK289.out)) : gb291 ≠ gb289)); have n8_ := Aside0.mk ((by rw [hg]; exact Nat.ne_of_lt (blk_lt (g := gb290) (o := .cells #[.int .i64 0, .int .i64 0, .int .i64 0, .slice none 0 0] 53 (0, 0)) (by (with_reducible repeat (first | refine blk_drewN ?_ _ | refine blk_drew ?_ | refine blk_alloc ?_ _)); exact BK290.out)) : gb290 ≠ gb291)); have n9_ := Aside0.mk ((by rw [hg]; exact Nat.ne_of_gt (blk_lt (g := gb290) (o := .cells #[.int .i64 0, .int .i64 0, .int .i64 0, .slice none 0 0] 53 (0, 0)) (by (with_reducible repeat (first | refine blk_drewN ?_ _ | refine blk_drew ?_ | refine blk_alloc ?_ _)); exact BK290.out)) : gb291 ≠ gb290)); clear BK289; clear BK290; clear HB; have BK289 := n0_; have BK290 := n1_; have HB := n2_; have BK291 := n3_; have GW291 := n4_; have GE291 := n5_; have NB289_291 := n6_; have NB291_289 := n7_; have NB290_291 := n8_; have NB291_290 := n9_; clear n0_ n1_ n2_ n3_ n4_ n5_ n6_ n7_ n8_ n9_; clear hb hbox hg; have hnb6 := NB289_290.out; have hnc6 := NB290_289.out; have hnb7 := NB289_291.out; have hnc7 := NB291_289.out; have hcz8_0 : w5.cell? ⟨gb289, 0, none⟩ = some (.int .i64 a0_0) := (blk_cell BK289.out 0).trans rfl; have hcz8_1 : w5.cell? ⟨gb289, 1, none⟩ = some (.int .i64 a0_1) := (blk_cell BK289.out 1).trans rfl; have hcz8_2 : w5.cell? ⟨gb289, 2, none⟩ = some (.int .i64 a0_2) := (blk_cell BK289.out 2).trans rfl; have hcz8_3 : w5.cell? ⟨gb289, 3, none⟩ = some (.slice A0_3 l0_3.length c0_3) := (blk_cell BK289.out 3).trans rfl; have hfz8_0 := blk_frozen BK289.out 0; have hfz8_1 := blk_frozen BK289.out 1; have hfz8_2 := blk_frozen BK289.out 2; have hfz8_3 := blk_frozen BK289.out 3; have hnb9 := NB291_290.out; have hnc9 := NB290_291.out; have hcz10_0 : w5.cell? ⟨gb291, 0, none⟩ = some (.int .i64 0) := (blk_cell BK291.out 0).trans rfl; have hcz10_1 : w5.cell? ⟨gb291, 1, none⟩ = some (.int .i64 0) := (blk_cell BK291.out 1).trans rfl; have hcz10_2 : w5.cell? ⟨gb291, 2, none⟩ = some (.int .i64 0) := (blk_cell BK291.out 2).trans rfl; have hcz10_3 : w5.cell? ⟨gb291, 3, none⟩ = some (.slice none 0 0) := (blk_cell BK291.out 3).trans rfl; have hfz10_0 := blk_frozen BK291.out 0; have hfz10_1 := blk_frozen BK291.out 1; have hfz10_2 := blk_frozen BK291.out 2; have hfz10_3 := blk_frozen BK291.out 3) | ((with_reducible refine gate_callee (f := 133) rfl ?_); refine goesL_ (some 15) rfl rfl Try.func133 (by kernel_rfl) rfl #[.slice A0_3 l0_3.length c0_3] rfl (by (try simp only [List.map_toArray, List.map_cons, List.map_nil]); first | done | rfl | (simp only [List.length_drop, List.length_take]; rfl)) ?_; (with_reducible refine (laws_toFreeS.calls k _ _ l0_3 t292 _ ?side1 ?side2 A2.out).mono ?_); (case side1 => exact Kd.C_below HR0_3.out (by repeat (first | (with_reducible first | exact HB.out | apply below_alloc | apply pw_below_drewN | apply below_drew1 | refine below_set ?_ GE289.out | refine below_set ?_ GE290.out | refine below_set ?_ GE291.out) | exact HB.out))); (case side2 => exact HC0_3.out); rintro e w11 ⟨v293, rfl, ho0, hb⟩; refine ⟨_, rfl, ?_⟩; (first | have rs_v293 := one_store (P := Try.prog) ho0 | have rs_v293 := one_store (P := Try.prog) (Kd.S_R ho0) | skip); have n0_ := Aside0.mk (Kd.S_lower ho0 (below_size (by repeat (first | (with_reducible first | exact HB.out | apply below_alloc | apply pw_below_drewN | apply below_drew1 | refine below_set ?_ GE289.out | refine below_set ?_ GE290.out | refine below_set ?_ GE291.out) | exact HB.out)))); have n1_ := Aside0.mk (blk_below (g := gb289) (o := .cells #[.int .i64 a0_0, .int .i64 a0_1, .int .i64 a0_2, .slice A0_3 l0_3.length c0_3] 69 (0, 0)) (by (with_reducible repeat (first | refine blk_drewN ?_ _ | refine blk_drew ?_ | refine blk_alloc ?_ _)); refine blk_far ?_ NB289_291.out _; (with_reducible repeat (first | refine blk_drewN ?_ _ | refine blk_drew ?_ | refine blk_alloc ?_ _)); refine blk_far ?_ NB289_291.out _; (with_reducible repeat (first | refine blk_drewN ?_ _ | refine blk_drew ?_ | refine blk_alloc ?_ _)); refine blk_far ?_ NB289_291.out _; (with_reducible repeat (first | refine blk_drewN ?_ _ | refine blk_drew ?_ | refine blk_alloc ?_ _)); exact BK289.out) hb); have n2_ := Aside0.mk (blk_below (g := gb290) (o := .cells #[.int .i64 0, .int .i64 0, .int .i64 0, .slice none 0 0] 53 (0, 0)) (by (with_reducible repeat (first | refine blk_drewN ?_ _ | refine blk_drew ?_ | refine blk_alloc ?_ _)); refine blk_far ?_ NB290_291.out _; (with_reducible repeat (first | refine blk_drewN ?_ _ | refine blk_drew ?_ | refine blk_alloc ?_ _)); refine blk_far ?_ NB290_291.out _; (with_reducible repeat (first | refine blk_drewN ?_ _ | refine blk_drew ?_ | refine blk_alloc ?_ _)); refine blk_far ?_ NB290_291.out _; (with_reducible repeat (first | refine blk_drewN ?_ _ | refine blk_drew ?_ | refine blk_alloc ?_ _)); exact BK290.out) hb); have n3_ := Aside0.mk (blk_below (g := gb291) (o := .cells #[.int .i64 a0_0, .int .i64 a0_1, .int .i64 a0_2, .slice none 0 0] 53 (0, 0)) (by (with_reducible repeat (first | refine blk_drewN ?_ _ | refine blk_drew ?_ | refine blk_alloc ?_ _)); refine blk_put (cs := #[.int .i64 a0_0, .int .i64 a0_1, .int .i64 0, .slice none 0 0]) ?_ 2 _ rfl; (with_reducible repeat (first | refine blk_drewN ?_ _ | refine blk_drew ?_ | refine blk_alloc ?_ _)); refine blk_put (cs := #[.int .i64 a0_0, .int .i64 0, .int .i64 0, .slice none 0 0]) ?_ 1 _ rfl; (with_reducible repeat (first | refine blk_drewN ?_ _ | refine blk_drew ?_ | refine blk_alloc ?_ _)); refine blk_put (cs := #[.int .i64 0, .int .i64 0, .int .i64 0, .slice none 0 0]) ?_ 0 _ rfl; (with_reducible repeat (first | refine blk_drewN ?_ _ | refine blk_drew ?_ | refine blk_alloc ?_ _)); exact BK291.out) hb); have n4_ := Aside0.mk (below_step (by repeat (first | (with_reducible first | exact HB.out | apply below_alloc | apply pw_below_drewN | apply below_drew1 | refine below_set ?_ GE289.out | refine below_set ?_ GE290.out | refine below_set ?_ GE291.out) | exact HB.out)) hb); clear BK289; clear BK290; clear BK291; clear HB; have HO294 := n0_; have BK289 := n1_; have BK290 := n2_; have BK291 := n3_; have HB := n4_; clear n0_ n1_ n2_ n3_ n4_; (try clear hb); (try clear hb2); (try clear hk); (try clear hi); (try clear ho0); obtain ⟨Ao12, co12, eo12⟩ := Kd.S_slice HO294.out; subst eo12; have hcz13_0 : w11.cell? ⟨gb291, 0, none⟩ = some (.int .i64 a0_0) := (blk_cell BK291.out 0).trans rfl; have hcz13_1 : w11.cell? ⟨gb291, 1, none⟩ = some (.int .i64 a0_1) := (blk_cell BK291.out 1).trans rfl; have hcz13_2 : w11.cell? ⟨gb291, 2, none⟩ = some (.int .i64 a0_2) := (blk_cell BK291.out 2).trans rfl; have hcz13_3 : w11.cell? ⟨gb291, 3, none⟩ = some (.slice none 0 0) := (blk_cell BK291.out 3).trans rfl; have hfz13_0 := blk_frozen BK291.out 0; have hfz13_1 := blk_frozen BK291.out 1; have hfz13_2 := blk_frozen BK291.out 2; have hfz13_3 := blk_frozen BK291.out 3; have hcz14_0 : w11.cell? ⟨gb290, 0, none⟩ = some (.int .i64 0) := (blk_cell BK290.out 0).trans rfl; have hcz14_1 : w11.cell? ⟨gb290, 1, none⟩ = some (.int .i64 0) := (blk_cell BK290.out 1).trans rfl; have hcz14_2 : w11.cell? ⟨gb290, 2, none⟩ = some (.int .i64 0) := (blk_cell BK290.out 2).trans rfl; have hcz14_3 : w11.cell? ⟨gb290, 3, none⟩ = some (.slice none 0 0) := (blk_cell BK290.out 3).trans rfl; have hfz14_0 := blk_frozen BK290.out 0; have hfz14_1 := blk_frozen BK290.out 1; have hfz14_2 := blk_frozen BK290.out 2; have hfz14_3 := blk_frozen BK290.out 3))
 refine bodyPost_ret (results_cell_row rfl _ _ gb290 53 #[.int .i64 a0_0, .int .i64 a0_1, .int .i64 a0_2, .slice Ao12 t292.length co12] (0, 0) _ rfl (by (with_reducible repeat (first | refine blk_drewN ?_ _ | refine blk_drew ?_ | refine blk_alloc ?_ _)); refine blk_put (cs := #[.int .i64 a0_0, .int .i64 a0_1, .int .i64 a0_2, .slice none 0 0]) ?_ 3 _ rfl; (with_reducible repeat (first | refine blk_drewN ?_ _ | refine blk_drew ?_ | refine blk_alloc ?_ _)); refine blk_put (cs := #[.int .i64 a0_0, .int .i64 a0_1, .int .i64 0, .slice none 0 0]) ?_ 2 _ rfl; (with_reducible repeat (first | refine blk_drewN ?_ _ | refine blk_drew ?_ | refine blk_alloc ?_ _)); refine blk_put (cs := #[.int .i64 a0_0, .int .i64 0, .int .i64 0, .slice none 0 0]) ?_ 1 _ rfl; (with_reducible repeat (first | refine blk_drewN ?_ _ | refine blk_drew ?_ | refine blk_alloc ?_ _)); refine blk_put (cs := #[.int .i64 0, .int .i64 0, .int .i64 0, .slice none 0 0]) ?_ 0 _ rfl; (with_reducible repeat (first | refine blk_drewN ?_ _ | refine blk_drew ?_ | refine blk_alloc ?_ _)); refine blk_far ?_ NB290_291.out _; (with_reducible repeat (first | refine blk_drewN ?_ _ | refine blk_drew ?_ | refine blk_alloc ?_ _)); exact BK290.out) Try.underlying53 rfl (by kernel_rfl)) rfl ?_
 exact ⟨_, by first | rfl | (simp [errW_none, errW_some] <;> rfl) | (simp [*, errW_none, errW_some] <;> rfl), by (with_reducible repeat (first | apply Kd.S_alloc | apply Kd.S_drewN | apply Kd.S_drew)); exact Kd.S_mono (Kd.S_far (p := ⟨gb290, 3, none⟩) (Kd.S_far (p := ⟨gb290, 2, none⟩) (Kd.S_far (p := ⟨gb290, 1, none⟩) (Kd.S_far (p := ⟨gb290, 0, none⟩) (Kd.S_far (p := ⟨gb291, 3, none⟩) (Kd.S_types (Kd.S_types HO294.out BK291.out (by decide)) BK290.out (by decide)) (fun _ hk => hk.1.2) (.slice Ao12 t292.length co12)) (fun _ hk => hk.2) (.int .i64 a0_0)) (fun _ hk => hk.2) (.int .i64 a0_1)) (fun _ hk => hk.2) (.int .i64 a0_2)) (fun _ hk => hk.2) (.slice Ao12 t292.length co12)) (fun _ hk => trivial), by repeat (first | (with_reducible first | exact HB.out | apply below_alloc | apply pw_below_drewN | apply below_drew1 | refine below_set ?_ GE289.out | refine below_set ?_ GE290.out | refine below_set ?_ GE291.out) | exact HB.out)⟩
def laws_eqFree.f (k : Nat) (a0_0 : Int) (l0_1 : List Int) (a1_0 : Int) (l1_1 : List Int) : Option (Bool) := if a0_0 = a1_0 then ((laws_eqIntS.f k l0_1 l1_1).bind fun t116 => (if t116 = true then (some true) else (none))) else (none)
theorem laws_eqFree.calls (k : Nat) (a0_0 : Int) (A0_1 : Option Addr) (c0_1 : Nat) (l0_1 : List Int) (a1_0 : Int) (A1_1 : Option Addr) (c1_1 : Nat) (l1_1 : List Int) (r : Bool) (w : World) (hr0_1 : Kd.C (Kd.int .i64) w A0_1 l0_1.length l0_1) (hc0_1 : l0_1.length ≤ c0_1) (hr1_1 : Kd.C (Kd.int .i64) w A1_1 l1_1.length l1_1) (hc1_1 : l1_1.length ≤ c1_1) (h : laws_eqFree.f k a0_0 l0_1 a1_0 l1_1 = some r) :
  Calls Try.prog 146 #[.agg #[.int .i64 a0_0, .slice A0_1 l0_1.length c0_1], .agg #[.int .i64 a1_0, .slice A1_1 l1_1.length c1_1]] w fun e w' => e = .returned (.bool r) ∧ Below w.heap.size w w' := by
 have hu122 := Try.underlying122
 have HR0_1 := Aside0.mk hr0_1
 have HC0_1 := Aside0.mk hc0_1
 clear hr0_1 hc0_1
 have HR1_1 := Aside0.mk hr1_1
 have HC1_1 := Aside0.mk hc1_1
 clear hr1_1 hc1_1
 have HB := Aside0.mk (Below.refl w.heap.size w)
 have H : (if a0_0 = a1_0 then ((laws_eqIntS.f k l0_1 l1_1).bind fun t116 => (if t116 = true then (some true) else (none))) else (none)) = some r := h
 clear h
 by_cases c3 : a0_0 = a1_0
 ·rw [if_pos c3] at H
  have c3b0 : (a0_0 == a1_0) = true := beq_iff_eq.mpr c3
  have c3b1 : (a0_0 != a1_0) = false := bne_eq_false_iff_eq.mpr c3
  clear c3
  replace H := Option.bind_eq_some_iff.mp H
  obtain ⟨t116, A40, H⟩ := H
  replace H : (if t116 = true then (some true) else (none)) = some r := H
  have A4 := Aside0.mk A40
  clear A40
  by_cases c5 : t116 = true
  ·subst c5
   have H1 : (some true) = some r := by rw [if_pos rfl] at H; exact H
   clear H
   have H := H1
   clear H1
   obtain rfl := Option.some.inj H
   go_enter Try.func146, Try.ntmps146
   go_wp2_with (first | ((with_reducible refine gate_dst (N := 2) rfl ?_); refine box_event ?hg (N := 2) ?hd (cs := #[.int .i64 a0_0, .slice A0_1 l0_1.length c0_1]) (t := 122) ?hr ?_; (case hd => rfl); (case hg => rfl); (case hr => first | (go_simp; done) | (go_simp; rfl)); intro gb114 hg w6 hbox hb; have n0_ := Aside0.mk (below_step (by repeat (first | (with_reducible first | exact HB.out | apply below_alloc | apply pw_below_drewN | apply below_drew1) | exact HB.out)) hb); have n1_ := Aside0.mk (hbox); have n2_ := Aside0.mk ((by rw [hg]; exact (below_size (by repeat (first | (with_reducible first | exact HB.out | apply below_alloc | apply pw_below_drewN | apply below_drew1) | exact HB.out))) : w.heap.size ≤ gb114)); have n3_ := Aside0.mk ((by rw [hg]; exact (below_size (by repeat (first | (with_reducible first | exact HB.out | apply below_alloc | apply pw_below_drewN | apply below_drew1) | exact HB.out))) : w.heap.size ≤ gb114)); clear HB; have HB := n0_; have BK114 := n1_; have GW114 := n2_; have GE114 := n3_; clear n0_ n1_ n2_ n3_; clear hb hbox hg) | ((with_reducible refine gate_dst (N := 3) rfl ?_); refine box_event ?hg (N := 3) ?hd (cs := #[.int .i64 a1_0, .slice A1_1 l1_1.length c1_1]) (t := 122) ?hr ?_; (case hd => rfl); (case hg => rfl); (case hr => first | (go_simp; done) | (go_simp; rfl)); intro gb115 hg w7 hbox hb; have n0_ := Aside0.mk (blk_below (g := gb114) (o := .cells #[.int .i64 a0_0, .slice A0_1 l0_1.length c0_1] 122 (0, 0)) (by (with_reducible repeat (first | refine blk_drewN ?_ _ | refine blk_drew ?_ | refine blk_alloc ?_ _)); exact BK114.out) hb); have n1_ := Aside0.mk (below_step (by repeat (first | (with_reducible first | exact HB.out | apply below_alloc | apply pw_below_drewN | apply below_drew1 | refine below_set ?_ GE114.out) | exact HB.out)) hb); have n2_ := Aside0.mk (hbox); have n3_ := Aside0.mk ((by rw [hg]; exact (below_size (by repeat (first | (with_reducible first | exact HB.out | apply below_alloc | apply pw_below_drewN | apply below_drew1 | refine below_set ?_ GE114.out) | exact HB.out))) : w.heap.size ≤ gb115)); have n4_ := Aside0.mk ((by rw [hg]; exact (below_size (by repeat (first | (with_reducible first | exact HB.out | apply below_alloc | apply pw_below_drewN | apply below_drew1 | refine below_set ?_ GE114.out) | exact HB.out))) : w.heap.size ≤ gb115)); have n5_ := Aside0.mk ((by rw [hg]; exact Nat.ne_of_lt (blk_lt (g := gb114) (o := .cells #[.int .i64 a0_0, .slice A0_1 l0_1.length c0_1] 122 (0, 0)) (by (with_reducible repeat (first | refine blk_drewN ?_ _ | refine blk_drew ?_ | refine blk_alloc ?_ _)); exact BK114.out)) : gb114 ≠ gb115)); have n6_ := Aside0.mk ((by rw [hg]; exact Nat.ne_of_gt (blk_lt (g := gb114) (o := .cells #[.int .i64 a0_0, .slice A0_1 l0_1.length c0_1] 122 (0, 0)) (by (with_reducible repeat (first | refine blk_drewN ?_ _ | refine blk_drew ?_ | refine blk_alloc ?_ _)); exact BK114.out)) : gb115 ≠ gb114)); clear BK114; clear HB; have BK114 := n0_; have HB := n1_; have BK115 := n2_; have GW115 := n3_; have GE115 := n4_; have NB114_115 := n5_; have NB115_114 := n6_; clear n0_ n1_ n2_ n3_ n4_ n5_ n6_; clear hb hbox hg; have hnb8 := NB114_115.out; have hnc8 := NB115_114.out; have hcz9_0 : w7.cell? ⟨gb114, 0, none⟩ = some (.int .i64 a0_0) := (blk_cell BK114.out 0).trans rfl; have hcz9_1 : w7.cell? ⟨gb114, 1, none⟩ = some (.slice A0_1 l0_1.length c0_1) := (blk_cell BK114.out 1).trans rfl; have hfz9_0 := blk_frozen BK114.out 0; have hfz9_1 := blk_frozen BK114.out 1; have hcz10_0 : w7.cell? ⟨gb115, 0, none⟩ = some (.int .i64 a1_0) := (blk_cell BK115.out 0).trans rfl; have hcz10_1 : w7.cell? ⟨gb115, 1, none⟩ = some (.slice A1_1 l1_1.length c1_1) := (blk_cell BK115.out 1).trans rfl; have hfz10_0 := blk_frozen BK115.out 0; have hfz10_1 := blk_frozen BK115.out 1) | ((with_reducible refine gate_callee (f := 50) rfl ?_); refine goesL_ (some 14) rfl rfl Try.func50 (by kernel_rfl) rfl #[.slice A0_1 l0_1.length c0_1, .slice A1_1 l1_1.length c1_1] rfl (by (try simp only [List.map_toArray, List.map_cons, List.map_nil]); first | done | rfl | (simp only [List.length_drop, List.length_take]; rfl)) ?_; (with_reducible refine (laws_eqIntS.calls k _ _ l0_1 _ _ l1_1 true _ ?side1 ?side2 ?side3 ?side4 A4.out).mono ?_); (case side1 => repeat (first | exact (Kd.C_below HR0_1.out HB.out) | (with_reducible refine Kd.C_alloc ?_ _) | (with_reducible refine Kd.C_drewN ?_ _) | (with_reducible refine Kd.C_drew ?_))); (case side2 => exact HC0_1.out); (case side3 => repeat (first | exact (Kd.C_below HR1_1.out HB.out) | (with_reducible refine Kd.C_alloc ?_ _) | (with_reducible refine Kd.C_drewN ?_ _) | (with_reducible refine Kd.C_drew ?_))); (case side4 => exact HC1_1.out); rintro e w' ⟨rfl, ⟨nd, rfl⟩⟩; refine ⟨_, rfl, ?_⟩))
   go_ret
   exact ⟨by first | rfl | (simp [errW_none, errW_some] <;> rfl) | (simp [*, errW_none, errW_some] <;> rfl), by repeat (first | (with_reducible first | exact HB.out | apply below_alloc | apply pw_below_drewN | apply below_drew1 | refine below_set ?_ GE114.out | refine below_set ?_ GE115.out) | exact HB.out)⟩
  ·replace c5 := Bool.eq_false_iff.mpr c5
   subst c5
   have H1 : (none) = some r := by rw [if_neg (show ¬ (false = true) by decide)] at H; exact H
   clear H
   have H := H1
   clear H1
   exact absurd H (by simp)
 ·rw [if_neg c3] at H
  exact absurd H (by simp)
def laws_eqFreeS.l0 : Nat → List (S122) → List (S122) → Int → Option (Bool)
 | 0, _, _, _ => none
 | k + 1, x0, x1, x5 => if x5 < (x0.length : Int) then (if 0 ≤ x5 then (if x5 < (x1.length : Int) then ((laws_eqFree.f k ((rd_T122 x0 x5).f0) ((rd_T122 x0 x5).f1) ((rd_T122 x1 x5).f0) ((rd_T122 x1 x5).f1)).bind fun t119 => (if t119 = true then (laws_eqFreeS.l0 k x0 x1 (wrap64 (x5 + 1))) else (none))) else (none)) else (none)) else (some true)
def laws_eqFreeS.f (k : Nat) (l0 : List (S122)) (l1 : List (S122)) : Option (Bool) := if (l0.length : Int) = (l1.length : Int) then (laws_eqFreeS.l0 k l0 l1 0) else (none)
def laws_eqFreeS.T6 : Bool × List (List Nat × List Nat) := (true, [([], []), ([], []), ([0, 1], [0, 1]), ([2], [2]), ([], []), ([], []), ([4, 5], [4, 5]), ([6], [6]), ([3, 7], [3, 7]), ([8], [8])])
def laws_eqFreeS.B6 : List Nat := [0, 0, 3, 7, 0, 0, 48, 112, 255, 511]
theorem laws_eqFreeS.tab6 : rtab .any (opsOf Try.f100 6) = laws_eqFreeS.T6 := by kernel_rfl
theorem laws_eqFreeS.bits6 : waitsOk laws_eqFreeS.T6.2 laws_eqFreeS.B6 = true := by kernel_rfl
theorem laws_eqFreeS.calls (k : Nat) (A0 : Option Addr) (c0 : Nat) (l0 : List (S122)) (A1 : Option Addr) (c1 : Nat) (l1 : List (S122)) (r : Bool) (w : World) (hr0 : Kd.C k122 w A0 l0.length l0) (hc0 : l0.length ≤ c0) (hr1 : Kd.C k122 w A1 l1.length l1) (hc1 : l1.length ≤ c1) (h : laws_eqFreeS.f k l0 l1 = some r) :
  Calls Try.prog 100 #[.slice A0 l0.length c0, .slice A1 l1.length c1] w fun e w' => e = .returned (.bool r) ∧ Below w.heap.size w w' := by
 have hu122 := Try.underlying122
 have HR0 := Aside0.mk hr0
 have HC0 := Aside0.mk hc0
 clear hr0 hc0
 have HR1 := Aside0.mk hr1
 have HC1 := Aside0.mk hc1
 clear hr1 hc1
 have HB := Aside0.mk (Below.refl w.heap.size w)
 have H : (if (l0.length : Int) = (l1.length : Int) then (laws_eqFreeS.l0 k l0 l1 0) else (none)) = some r := h
 clear h
 by_cases c3 : (l0.length : Int) = (l1.length : Int)
 ·rw [if_pos c3] at H
  have c3b0 : ((l0.length : Int) == (l1.length : Int)) = true := beq_iff_eq.mpr c3
  have c3b1 : ((l0.length : Int) != (l1.length : Int)) = false := bne_eq_false_iff_eq.mpr c3
  have c3b2 : (l0.length == l1.length) = true := by first | simpa using c3 | (simp at c3 ⊢; omega)
  clear c3
  have H' := Aside0.mk H
  clear H
  go_enter Try.func100, Try.ntmps100
  go_wp2
  go_loopg [5] k (fun kq v5 w' => ∃ (x5_1 : Int), v5 = .int .i64 x5_1 ∧ Aside0 (laws_eqFreeS.l0 kq l0 l1 x5_1 = some r) ∧ Aside0 (kq ≤ k) ∧ Aside0 (Below w.heap.size w w'))
  case atStart => exact ⟨(0), (by first | rfl | (simp; done) | (simp [*]; done)), H', ⟨Nat.le_refl _⟩, ⟨by repeat (first | (with_reducible first | exact HB.out | apply below_alloc | apply pw_below_drewN | apply below_drew1) | exact HB.out)⟩⟩
  case round =>
   clear H'
   try clear c1
   try clear c3
   try clear c3b0
   try clear c3b1
   try clear c3b2
   obtain ⟨x5_1, rfl, HA, HK1, HB⟩ := hrel
   cases gk with
   | zero => exact absurd HA.out (by simp [laws_eqFreeS.l0])
   | succ k1 =>
    have H := HA.out
    clear HA
    simp only [laws_eqFreeS.l0] at H
    by_cases c4 : x5_1 < (l0.length : Int)
    ·rw [if_pos c4] at H
     have c4b0 : decide (x5_1 < (l0.length : Int)) = true := decide_eq_true c4
     clear c4
     by_cases c5 : 0 ≤ x5_1
     ·rw [if_pos c5] at H
      have c5b0 : decide (0 ≤ x5_1) = true := decide_eq_true c5
      clear c5
      by_cases c6 : x5_1 < (l1.length : Int)
      ·rw [if_pos c6] at H
       have c6b0 : decide (x5_1 < (l1.length : Int)) = true := decide_eq_true c6
       clear c6
       replace H := Option.bind_eq_some_iff.mp H
       obtain ⟨t119, A70, H⟩ := H
       replace H : (if t119 = true then (laws_eqFreeS.l0 k1 l0 l1 (wrap64 (x5_1 + 1))) else (none)) = some r := H
       have A7 := Aside0.mk A70
       clear A70
       by_cases c8 : t119 = true
       ·subst c8
        have H1 : (laws_eqFreeS.l0 k1 l0 l1 (wrap64 (x5_1 + 1))) = some r := by rw [if_pos rfl] at H; exact H
        clear H
        have H := H1
        clear H1
        have H' := Aside0.mk H
        clear H
        try go_wp2
        have n0_ := Aside0.mk (below_drew1 HB.out)
        clear HB
        have HB := n0_
        clear n0_
        have p117 : 0 ≤ (x5_1 : Int) := of_decide_eq_true (by with_reducible assumption)
        have q117 : x5_1 < (l0.length : Int) := of_decide_eq_true (by with_reducible assumption)
        obtain ⟨ad117, A117_1, c117_1, e117, hx117_0, hx117_1, hl117_1, hi117_1⟩ := at_T122 HR0.out x5_1 p117 q117
        have hw117_1 := hx117_1
        have hw117_0 := hx117_0
        cases e117
        replace hx117_0 := (HB.out.cell (World.block_lt_of_cell? w _ hx117_0)).trans hx117_0
        replace hx117_1 := (HB.out.cell (World.block_lt_of_cell? w _ hx117_1)).trans hx117_1
        have HR117_1 := Aside0.mk hi117_1
        have HC117_1 := Aside0.mk hl117_1
        clear hi117_1 hl117_1
        replace p117 := eq_true p117
        replace q117 := eq_true q117
        have p118 : 0 ≤ (x5_1 : Int) := of_decide_eq_true (by with_reducible assumption)
        have q118 : x5_1 < (l1.length : Int) := of_decide_eq_true (by with_reducible assumption)
        obtain ⟨ad118, A118_1, c118_1, e118, hx118_0, hx118_1, hl118_1, hi118_1⟩ := at_T122 HR1.out x5_1 p118 q118
        have hw118_1 := hx118_1
        have hw118_0 := hx118_0
        cases e118
        replace hx118_0 := (HB.out.cell (World.block_lt_of_cell? w _ hx118_0)).trans hx118_0
        replace hx118_1 := (HB.out.cell (World.block_lt_of_cell? w _ hx118_1)).trans hx118_1
        have HR118_1 := Aside0.mk hi118_1
        have HC118_1 := Aside0.mk hl118_1
        clear hi118_1 hl118_1
        replace p118 := eq_true p118
        replace q118 := eq_true q118
        refine start_ (n := 10) (S := fun w' => w'.cell? (ad117.add ((x5_1).toNat * 2)) = some (.int .i64 ((rd_T122 l0 x5_1).f0)) ∧ w'.cell? ⟨(ad117.add ((x5_1).toNat * 2)).block, (ad117.add ((x5_1).toNat * 2)).off + 1, none⟩ = some (.slice A117_1 ((rd_T122 l0 x5_1).f1).length c117_1) ∧ w'.cell? (ad118.add ((x5_1).toNat * 2)) = some (.int .i64 ((rd_T122 l1 x5_1).f0)) ∧ w'.cell? ⟨(ad118.add ((x5_1).toNat * 2)).block, (ad118.add ((x5_1).toNat * 2)).off + 1, none⟩ = some (.slice A118_1 ((rd_T122 l1 x5_1).f1).length c118_1)) (ds := []) #[false, false, false, false, false, false, false, false, false, false] (by kernel_rfl) rfl rfl ⟨((HB.out.cell (World.block_lt_of_cell? w _ hw117_0)).trans hw117_0), ((HB.out.cell (World.block_lt_of_cell? w _ hw117_1)).trans hw117_1), ((HB.out.cell (World.block_lt_of_cell? w _ hw118_0)).trans hw118_0), ((HB.out.cell (World.block_lt_of_cell? w _ hw118_1)).trans hw118_1)⟩ (fun hHeld => ?_); refine with_tabW laws_eqFreeS.tab6 laws_eqFreeS.bits6 (fun HT_ HW_ => ?_)
        generalize wr.drew = w9 at HB HR117_1 HR118_1 hx117_0 hx117_1 hx118_0 hx118_1 hHeld ⊢
        refine pure_ (i := 0) (N := some 17) (v := ?_) (a' := ?_) #[true, false, false, false, false, false, false, false, false, false] rfl rfl (any_of HT_.out (by kernel_rfl)) (fun _ _ _ h => h) (Or.inl ⟨by rfl, ?_⟩) ?_ ?_
        rotate_left
        ·intro w'
         go_simp
         with_reducible rfl
        rotate_left
        ·simp only [Act.put, List.setIfInBounds_toArray, List.set_cons_zero, List.set_cons_succ, i64_w, i32_w]
         rfl
        refine pure_ (i := 1) (N := some 18) (v := ?_) (a' := ?_) #[true, true, false, false, false, false, false, false, false, false] rfl rfl (any_of HT_.out (by kernel_rfl)) (fun _ _ _ h => h) (Or.inl ⟨by rfl, ?_⟩) ?_ ?_
        rotate_left
        ·intro w'
         go_simp
         with_reducible rfl
        rotate_left
        ·simp only [Act.put, List.setIfInBounds_toArray, List.set_cons_zero, List.set_cons_succ, i64_w, i32_w]
         rfl
        refine pure_ (i := 2) (N := some 19) (v := ?_) (a' := ?_) #[true, true, true, false, false, false, false, false, false, false] rfl rfl (any_of HT_.out (by kernel_rfl)) (fun _ _ _ h => h) (Or.inl ⟨by rfl, ?_⟩) ?_ ?_
        rotate_left
        ·intro w'
         go_simp
         with_reducible rfl
        rotate_left
        ·simp only [Act.put, List.setIfInBounds_toArray, List.set_cons_zero, List.set_cons_succ, i64_w, i32_w]
         rfl
        refine pure_ (i := 4) (N := some 21) (v := ?_) (a' := ?_) #[true, true, true, false, true, false, false, false, false, false] rfl rfl (any_of HT_.out (by kernel_rfl)) (fun _ _ _ h => h) (Or.inl ⟨by rfl, ?_⟩) ?_ ?_
        rotate_left
        ·intro w'
         go_simp
         with_reducible rfl
        rotate_left
        ·simp only [Act.put, List.setIfInBounds_toArray, List.set_cons_zero, List.set_cons_succ, i64_w, i32_w]
         rfl
        refine pure_ (i := 5) (N := some 22) (v := ?_) (a' := ?_) #[true, true, true, false, true, true, false, false, false, false] rfl rfl (any_of HT_.out (by kernel_rfl)) (fun _ _ _ h => h) (Or.inl ⟨by rfl, ?_⟩) ?_ ?_
        rotate_left
        ·intro w'
         go_simp
         with_reducible rfl
        rotate_left
        ·simp only [Act.put, List.setIfInBounds_toArray, List.set_cons_zero, List.set_cons_succ, i64_w, i32_w]
         rfl
        refine pure_ (i := 6) (N := some 23) (v := ?_) (a' := ?_) #[true, true, true, false, true, true, true, false, false, false] rfl rfl (any_of HT_.out (by kernel_rfl)) (fun _ _ _ h => h) (Or.inl ⟨by rfl, ?_⟩) ?_ ?_
        rotate_left
        ·intro w'
         go_simp
         with_reducible rfl
        rotate_left
        ·simp only [Act.put, List.setIfInBounds_toArray, List.set_cons_zero, List.set_cons_succ, i64_w, i32_w]
         rfl
        refine take_ (i := 3) (N := some 20) (v := ?_) (a' := ?_) #[true, true, true, true, true, true, true, false, false, false] rfl rfl (take_ofW HT_.out HW_.out (by kernel_rfl)) (fun _ _ _ h => h) (Or.inl ⟨by rfl, ?_⟩) hHeld ?_ ?_
        rotate_left
        ·rintro w' ⟨s0, s1, s2, s3⟩
         go_simp
         with_reducible rfl
        rotate_left
        ·simp only [Act.put, List.setIfInBounds_toArray, List.set_cons_zero, List.set_cons_succ, i64_w, i32_w]
         rfl
        refine take_ (i := 7) (N := some 24) (v := ?_) (a' := ?_) #[true, true, true, true, true, true, true, true, false, false] rfl rfl (take_ofW HT_.out HW_.out (by kernel_rfl)) (fun _ _ _ h => h) (Or.inl ⟨by rfl, ?_⟩) hHeld ?_ ?_
        rotate_left
        ·rintro w' ⟨s0, s1, s2, s3⟩
         go_simp
         with_reducible rfl
        rotate_left
        ·simp only [Act.put, List.setIfInBounds_toArray, List.set_cons_zero, List.set_cons_succ, i64_w, i32_w]
         rfl
        refine one_ (i := 8) (N := some 25) #[true, true, true, true, true, true, true, true, true, false] rfl rfl (one_of HT_.out (by kernel_rfl)) (by decide) (fun K hK => ?_)
        refine goes_ Try.func146 (by kernel_rfl) rfl #[.agg #[.int .i64 ((rd_T122 l0 x5_1).f0), .slice A117_1 ((rd_T122 l0 x5_1).f1).length c117_1], .agg #[.int .i64 ((rd_T122 l1 x5_1).f0), .slice A118_1 ((rd_T122 l1 x5_1).f1).length c118_1]] (by rfl) rfl rfl (by (try simp only [List.map_toArray, List.map_cons, List.map_nil]); first | done | rfl | (simp only [List.length_drop, List.length_take]; rfl)) ?_
        with_reducible refine (laws_eqFree.calls k1 ((rd_T122 l0 x5_1).f0) _ _ ((rd_T122 l0 x5_1).f1) ((rd_T122 l1 x5_1).f0) _ _ ((rd_T122 l1 x5_1).f1) true _ ?side1 ?side2 ?side3 ?side4 A7.out).mono ?_
        (case side1 => repeat (first | exact (Kd.C_below HR117_1.out HB.out) | (with_reducible refine Kd.C_alloc ?_ _) | (with_reducible refine Kd.C_drewN ?_ _) | (with_reducible refine Kd.C_drew ?_)))
        (case side2 => exact HC117_1.out)
        (case side3 => repeat (first | exact (Kd.C_below HR118_1.out HB.out) | (with_reducible refine Kd.C_alloc ?_ _) | (with_reducible refine Kd.C_drewN ?_ _) | (with_reducible refine Kd.C_drew ?_)))
        (case side4 => exact HC118_1.out)
        rintro e w10 ⟨rfl, hb⟩
        refine ⟨_, rfl, ?_⟩
        have n0_ := Aside0.mk (below_step (by repeat (first | (with_reducible first | exact HB.out | apply below_alloc | apply pw_below_drewN | apply below_drew1) | exact HB.out)) hb)
        clear HB
        have HB := n0_
        clear n0_
        (try clear hb)
        (try clear hb2)
        (try clear hk)
        (try clear hi)
        refine hK.out _ _ ⟨((HB.out.cell (World.block_lt_of_cell? w _ hw117_0)).trans hw117_0), ((HB.out.cell (World.block_lt_of_cell? w _ hw117_1)).trans hw117_1), ((HB.out.cell (World.block_lt_of_cell? w _ hw118_0)).trans hw118_0), ((HB.out.cell (World.block_lt_of_cell? w _ hw118_1)).trans hw118_1)⟩ (fun hHeld => ?_)
        clear hK K
        refine norm_ (a' := ?_) ?_ ?_
        rotate_left
        ·show Act.put _ (some 25) _ = _
         simp only [Act.put, List.setIfInBounds_toArray, List.set_cons_zero, List.set_cons_succ, i64_w, i32_w]
         rfl
        refine pure_ (i := 9) (N := some 26) (v := ?_) (a' := ?_) #[true, true, true, true, true, true, true, true, true, true] rfl rfl (any_of HT_.out (by kernel_rfl)) (fun _ _ _ h => h) (Or.inl ⟨by rfl, ?_⟩) ?_ ?_
        rotate_left
        ·intro w'
         go_simp
         with_reducible rfl
        rotate_left
        ·simp only [Act.put, List.setIfInBounds_toArray, List.set_cons_zero, List.set_cons_succ, i64_w, i32_w]
         rfl
        refine done_ (done_of HT_.out (by kernel_rfl)) ?_
        try go_wp2
        go_roundg k1
        case measure => have := HK1.out; omega
        case rel => exact ⟨(wrap64 (x5_1 + 1)), (by first | rfl | (simp; done) | (simp [*]; done)), H', ⟨by have := HK1.out; omega⟩, ⟨by repeat (first | (with_reducible first | exact HB.out | apply below_alloc | apply pw_below_drewN | apply below_drew1) | exact HB.out)⟩⟩
       ·replace c8 := Bool.eq_false_iff.mpr c8
        subst c8
        have H1 : (none) = some r := by rw [if_neg (show ¬ (false = true) by decide)] at H; exact H
        clear H
        have H := H1
        clear H1
        exact absurd H (by simp)
      ·rw [if_neg c6] at H
       exact absurd H (by simp)
     ·rw [if_neg c5] at H
      exact absurd H (by simp)
    ·rw [if_neg c4] at H
     have c4b0 : decide (x5_1 < (l0.length : Int)) = false := decide_eq_false c4
     clear c4
     obtain rfl := Option.some.inj H
     go_wp2
     go_ret
     exact ⟨by first | rfl | (simp [errW_none, errW_some] <;> rfl) | (simp [*, errW_none, errW_some] <;> rfl), by repeat (first | (with_reducible first | exact HB.out | apply below_alloc | apply pw_below_drewN | apply below_drew1) | exact HB.out)⟩
 ·rw [if_neg c3] at H
  exact absurd H (by simp)
def laws_eqMeta.f (k : Nat) (a0_0 : Int) (a0_1 : Int) (a0_2 : Int) (l0_3 : List (S122)) (a1_0 : Int) (a1_1 : Int) (a1_2 : Int) (l1_3 : List (S122)) : Option (Bool) := if a0_0 = a1_0 then (if a0_1 = a1_1 then (if a0_2 = a1_2 then ((laws_eqFreeS.f k l0_3 l1_3).bind fun t122 => (if t122 = true then (some true) else (none))) else (none)) else (none)) else (none)
theorem laws_eqMeta.calls (k : Nat) (a0_0 : Int) (a0_1 : Int) (a0_2 : Int) (A0_3 : Option Addr) (c0_3 : Nat) (l0_3 : List (S122)) (a1_0 : Int) (a1_1 : Int) (a1_2 : Int) (A1_3 : Option Addr) (c1_3 : Nat) (l1_3 : List (S122)) (r : Bool) (w : World) (hr0_3 : Kd.C k122 w A0_3 l0_3.length l0_3) (hc0_3 : l0_3.length ≤ c0_3) (hr1_3 : Kd.C k122 w A1_3 l1_3.length l1_3) (hc1_3 : l1_3.length ≤ c1_3) (h : laws_eqMeta.f k a0_0 a0_1 a0_2 l0_3 a1_0 a1_1 a1_2 l1_3 = some r) :
  Calls Try.prog 41 #[.agg #[.int .i64 a0_0, .int .i64 a0_1, .int .i64 a0_2, .slice A0_3 l0_3.length c0_3], .agg #[.int .i64 a1_0, .int .i64 a1_1, .int .i64 a1_2, .slice A1_3 l1_3.length c1_3]] w fun e w' => e = .returned (.bool r) ∧ Below w.heap.size w w' := by
 have hu53 := Try.underlying53
 have HR0_3 := Aside0.mk hr0_3
 have HC0_3 := Aside0.mk hc0_3
 clear hr0_3 hc0_3
 have HR1_3 := Aside0.mk hr1_3
 have HC1_3 := Aside0.mk hc1_3
 clear hr1_3 hc1_3
 have HB := Aside0.mk (Below.refl w.heap.size w)
 have H : (if a0_0 = a1_0 then (if a0_1 = a1_1 then (if a0_2 = a1_2 then ((laws_eqFreeS.f k l0_3 l1_3).bind fun t122 => (if t122 = true then (some true) else (none))) else (none)) else (none)) else (none)) = some r := h
 clear h
 by_cases c3 : a0_0 = a1_0
 ·rw [if_pos c3] at H
  have c3b0 : (a0_0 == a1_0) = true := beq_iff_eq.mpr c3
  have c3b1 : (a0_0 != a1_0) = false := bne_eq_false_iff_eq.mpr c3
  clear c3
  by_cases c4 : a0_1 = a1_1
  ·rw [if_pos c4] at H
   have c4b0 : (a0_1 == a1_1) = true := beq_iff_eq.mpr c4
   have c4b1 : (a0_1 != a1_1) = false := bne_eq_false_iff_eq.mpr c4
   clear c4
   by_cases c5 : a0_2 = a1_2
   ·rw [if_pos c5] at H
    have c5b0 : (a0_2 == a1_2) = true := beq_iff_eq.mpr c5
    have c5b1 : (a0_2 != a1_2) = false := bne_eq_false_iff_eq.mpr c5
    clear c5
    replace H := Option.bind_eq_some_iff.mp H
    obtain ⟨t122, A60, H⟩ := H
    replace H : (if t122 = true then (some true) else (none)) = some r := H
    have A6 := Aside0.mk A60
    clear A60
    by_cases c7 : t122 = true
    ·subst c7
     have H1 : (some true) = some r := by rw [if_pos rfl] at H; exact H
     clear H
     have H := H1
     clear H1
     obtain rfl := Option.some.inj H
     go_enter Try.func41, Try.ntmps41
     go_wp2_with (first | ((with_reducible refine gate_dst (N := 2) rfl ?_); refine box_event ?hg (N := 2) ?hd (cs := #[.int .i64 a0_0, .int .i64 a0_1, .int .i64 a0_2, .slice A0_3 l0_3.length c0_3]) (t := 53) ?hr ?_; (case hd => rfl); (case hg => rfl); (case hr => first | (go_simp; done) | (go_simp; rfl)); intro gb120 hg w8 hbox hb; have n0_ := Aside0.mk (below_step (by repeat (first | (with_reducible first | exact HB.out | apply below_alloc | apply pw_below_drewN | apply below_drew1) | exact HB.out)) hb); have n1_ := Aside0.mk (hbox); have n2_ := Aside0.mk ((by rw [hg]; exact (below_size (by repeat (first | (with_reducible first | exact HB.out | apply below_alloc | apply pw_below_drewN | apply below_drew1) | exact HB.out))) : w.heap.size ≤ gb120)); have n3_ := Aside0.mk ((by rw [hg]; exact (below_size (by repeat (first | (with_reducible first | exact HB.out | apply below_alloc | apply pw_below_drewN | apply below_drew1) | exact HB.out))) : w.heap.size ≤ gb120)); clear HB; have HB := n0_; have BK120 := n1_; have GW120 := n2_; have GE120 := n3_; clear n0_ n1_ n2_ n3_; clear hb hbox hg) | ((with_reducible refine gate_dst (N := 3) rfl ?_); refine box_event ?hg (N := 3) ?hd (cs := #[.int .i64 a1_0, .int .i64 a1_1, .int .i64 a1_2, .slice A1_3 l1_3.length c1_3]) (t := 53) ?hr ?_; (case hd => rfl); (case hg => rfl); (case hr => first | (go_simp; done) | (go_simp; rfl)); intro gb121 hg w9 hbox hb; have n0_ := Aside0.mk (blk_below (g := gb120) (o := .cells #[.int .i64 a0_0, .int .i64 a0_1, .int .i64 a0_2, .slice A0_3 l0_3.length c0_3] 53 (0, 0)) (by (with_reducible repeat (first | refine blk_drewN ?_ _ | refine blk_drew ?_ | refine blk_alloc ?_ _)); exact BK120.out) hb); have n1_ := Aside0.mk (below_step (by repeat (first | (with_reducible first | exact HB.out | apply below_alloc | apply pw_below_drewN | apply below_drew1 | refine below_set ?_ GE120.out) | exact HB.out)) hb); have n2_ := Aside0.mk (hbox); have n3_ := Aside0.mk ((by rw [hg]; exact (below_size (by repeat (first | (with_reducible first | exact HB.out | apply below_alloc | apply pw_below_drewN | apply below_drew1 | refine below_set ?_ GE120.out) | exact HB.out))) : w.heap.size ≤ gb121)); have n4_ := Aside0.mk ((by rw [hg]; exact (below_size (by repeat (first | (with_reducible first | exact HB.out | apply below_alloc | apply pw_below_drewN | apply below_drew1 | refine below_set ?_ GE120.out) | exact HB.out))) : w.heap.size ≤ gb121)); have n5_ := Aside0.mk ((by rw [hg]; exact Nat.ne_of_lt (blk_lt (g := gb120) (o := .cells #[.int .i64 a0_0, .int .i64 a0_1, .int .i64 a0_2, .slice A0_3 l0_3.length c0_3] 53 (0, 0)) (by (with_reducible repeat (first | refine blk_drewN ?_ _ | refine blk_drew ?_ | refine blk_alloc ?_ _)); exact BK120.out)) : gb120 ≠ gb121)); have n6_ := Aside0.mk ((by rw [hg]; exact Nat.ne_of_gt (blk_lt (g := gb120) (o := .cells #[.int .i64 a0_0, .int .i64 a0_1, .int .i64 a0_2, .slice A0_3 l0_3.length c0_3] 53 (0, 0)) (by (with_reducible repeat (first | refine blk_drewN ?_ _ | refine blk_drew ?_ | refine blk_alloc ?_ _)); exact BK120.out)) : gb121 ≠ gb120)); clear BK120; clear HB; have BK120 := n0_; have HB := n1_; have BK121 := n2_; have GW121 := n3_; have GE121 := n4_; have NB120_121 := n5_; have NB121_120 := n6_; clear n0_ n1_ n2_ n3_ n4_ n5_ n6_; clear hb hbox hg; have hnb10 := NB120_121.out; have hnc10 := NB121_120.out; have hcz11_0 : w9.cell? ⟨gb120, 0, none⟩ = some (.int .i64 a0_0) := (blk_cell BK120.out 0).trans rfl; have hcz11_1 : w9.cell? ⟨gb120, 1, none⟩ = some (.int .i64 a0_1) := (blk_cell BK120.out 1).trans rfl; have hcz11_2 : w9.cell? ⟨gb120, 2, none⟩ = some (.int .i64 a0_2) := (blk_cell BK120.out 2).trans rfl; have hcz11_3 : w9.cell? ⟨gb120, 3, none⟩ = some (.slice A0_3 l0_3.length c0_3) := (blk_cell BK120.out 3).trans rfl; have hfz11_0 := blk_frozen BK120.out 0; have hfz11_1 := blk_frozen BK120.out 1; have hfz11_2 := blk_frozen BK120.out 2; have hfz11_3 := blk_frozen BK120.out 3; have hcz12_0 : w9.cell? ⟨gb121, 0, none⟩ = some (.int .i64 a1_0) := (blk_cell BK121.out 0).trans rfl; have hcz12_1 : w9.cell? ⟨gb121, 1, none⟩ = some (.int .i64 a1_1) := (blk_cell BK121.out 1).trans rfl; have hcz12_2 : w9.cell? ⟨gb121, 2, none⟩ = some (.int .i64 a1_2) := (blk_cell BK121.out 2).trans rfl; have hcz12_3 : w9.cell? ⟨gb121, 3, none⟩ = some (.slice A1_3 l1_3.length c1_3) := (blk_cell BK121.out 3).trans rfl; have hfz12_0 := blk_frozen BK121.out 0; have hfz12_1 := blk_frozen BK121.out 1; have hfz12_2 := blk_frozen BK121.out 2; have hfz12_3 := blk_frozen BK121.out 3) | ((with_reducible refine gate_callee (f := 100) rfl ?_); refine goesL_ (some 24) rfl rfl Try.func100 (by kernel_rfl) rfl #[.slice A0_3 l0_3.length c0_3, .slice A1_3 l1_3.length c1_3] rfl (by (try simp only [List.map_toArray, List.map_cons, List.map_nil]); first | done | rfl | (simp only [List.length_drop, List.length_take]; rfl)) ?_; (with_reducible refine (laws_eqFreeS.calls k _ _ l0_3 _ _ l1_3 true _ ?side1 ?side2 ?side3 ?side4 A6.out).mono ?_); (case side1 => repeat (first | exact (Kd.C_below HR0_3.out HB.out) | (with_reducible refine Kd.C_alloc ?_ _) | (with_reducible refine Kd.C_drewN ?_ _) | (with_reducible refine Kd.C_drew ?_))); (case side2 => exact HC0_3.out); (case side3 => repeat (first | exact (Kd.C_below HR1_3.out HB.out) | (with_reducible refine Kd.C_alloc ?_ _) | (with_reducible refine Kd.C_drewN ?_ _) | (with_reducible refine Kd.C_drew ?_))); (case side4 => exact HC1_3.out); rintro e w13 ⟨rfl, hb⟩; refine ⟨_, rfl, ?_⟩; have n0_ := Aside0.mk (blk_below (g := gb120) (o := .cells #[.int .i64 a0_0, .int .i64 a0_1, .int .i64 a0_2, .slice A0_3 l0_3.length c0_3] 53 (0, 0)) (by (with_reducible repeat (first | refine blk_drewN ?_ _ | refine blk_drew ?_ | refine blk_alloc ?_ _)); exact BK120.out) hb); have n1_ := Aside0.mk (blk_below (g := gb121) (o := .cells #[.int .i64 a1_0, .int .i64 a1_1, .int .i64 a1_2, .slice A1_3 l1_3.length c1_3] 53 (0, 0)) (by (with_reducible repeat (first | refine blk_drewN ?_ _ | refine blk_drew ?_ | refine blk_alloc ?_ _)); exact BK121.out) hb); have n2_ := Aside0.mk (below_step (by repeat (first | (with_reducible first | exact HB.out | apply below_alloc | apply pw_below_drewN | apply below_drew1 | refine below_set ?_ GE120.out | refine below_set ?_ GE121.out) | exact HB.out)) hb); clear BK120; clear BK121; clear HB; have BK120 := n0_; have BK121 := n1_; have HB := n2_; clear n0_ n1_ n2_; (try clear hb); (try clear hb2); (try clear hk); (try clear hi)))
     go_ret
     exact ⟨by first | rfl | (simp [errW_none, errW_some] <;> rfl) | (simp [*, errW_none, errW_some] <;> rfl), by repeat (first | (with_reducible first | exact HB.out | apply below_alloc | apply pw_below_drewN | apply below_drew1 | refine below_set ?_ GE120.out | refine below_set ?_ GE121.out) | exact HB.out)⟩
    ·replace c7 := Bool.eq_false_iff.mpr c7
     subst c7
     have H1 : (none) = some r := by rw [if_neg (show ¬ (false = true) by decide)] at H; exact H
     clear H
     have H := H1
     clear H1
     exact absurd H (by simp)
   ·rw [if_neg c5] at H
    exact absurd H (by simp)
  ·rw [if_neg c4] at H
   exact absurd H (by simp)
 ·rw [if_neg c3] at H
  exact absurd H (by simp)
def laws_heldFreeS.l0 : Nat → List (S122) → Int → Int → Option (Int)
 | 0, _, _, _ => none
 | k + 1, x0, x1, x5 => if x5 < (x0.length : Int) then (if 0 ≤ x5 then (if ((rd_T122 x0 x5).f0) = x1 then ((laws_heldIntS.f k ((rd_T122 x0 x5).f1) (wrap64 (x1 + 1))).bind fun t172 => (if t172 < 0 then (none) else (laws_heldFreeS.l0 k x0 t172 (wrap64 (x5 + 1))))) else (none)) else (none)) else (some x1)
def laws_heldFreeS.f (k : Nat) (l0 : List (S122)) (a1 : Int) : Option (Int) := laws_heldFreeS.l0 k l0 a1 0
theorem laws_heldFreeS.calls (k : Nat) (A0 : Option Addr) (c0 : Nat) (l0 : List (S122)) (a1 : Int) (r : Int) (w : World) (hr0 : Kd.C k122 w A0 l0.length l0) (hc0 : l0.length ≤ c0) (h : laws_heldFreeS.f k l0 a1 = some r) :
  Calls Try.prog 102 #[.slice A0 l0.length c0, .int .i64 a1] w fun e w' => e = .returned (.int .i64 r) ∧ Drawn0 w w' := by
 have HR0 := Aside0.mk hr0
 have HC0 := Aside0.mk hc0
 clear hr0 hc0
 have H : (laws_heldFreeS.l0 k l0 a1 0) = some r := h
 clear h
 have H' := Aside0.mk H
 clear H
 go_enter Try.func102, Try.ntmps102
 go_wp2
 go_loopg [1, 5] k (fun kq v1 v5 w' => ∃ (x1_1 : Int) (x5_1 : Int), v1 = .int .i64 x1_1 ∧ v5 = .int .i64 x5_1 ∧ Aside0 (laws_heldFreeS.l0 kq l0 x1_1 x5_1 = some r) ∧ Aside0 (kq ≤ k) ∧ Drawn0 w w')
 case atStart => exact ⟨(a1), (0), (by first | rfl | (simp; done) | (simp [*]; done)), (by first | rfl | (simp; done) | (simp [*]; done)), H', ⟨Nat.le_refl _⟩, by repeat (first | exact Drawn0.refl _ | apply Drawn0.step)⟩
 case round =>
  clear H'
  obtain ⟨x1_1, x5_1, rfl, rfl, HA, HK1, ⟨m1, rfl⟩⟩ := hrel
  cases gk with
  | zero => exact absurd HA.out (by simp [laws_heldFreeS.l0])
  | succ k1 =>
   have H := HA.out
   clear HA
   simp only [laws_heldFreeS.l0] at H
   by_cases c3 : x5_1 < (l0.length : Int)
   ·rw [if_pos c3] at H
    have c3b0 : decide (x5_1 < (l0.length : Int)) = true := decide_eq_true c3
    clear c3
    by_cases c4 : 0 ≤ x5_1
    ·rw [if_pos c4] at H
     have c4b0 : decide (0 ≤ x5_1) = true := decide_eq_true c4
     clear c4
     by_cases c5 : ((rd_T122 l0 x5_1).f0) = x1_1
     ·rw [if_pos c5] at H
      have c5b0 : (((rd_T122 l0 x5_1).f0) == x1_1) = true := beq_iff_eq.mpr c5
      have c5b1 : (((rd_T122 l0 x5_1).f0) != x1_1) = false := bne_eq_false_iff_eq.mpr c5
      clear c5
      replace H := Option.bind_eq_some_iff.mp H
      obtain ⟨t172, A60, H⟩ := H
      replace H : (if t172 < 0 then (none) else (laws_heldFreeS.l0 k1 l0 t172 (wrap64 (x5_1 + 1)))) = some r := H
      have A6 := Aside0.mk A60
      clear A60
      by_cases c7 : t172 < 0
      ·rw [if_pos c7] at H
       exact absurd H (by simp)
      ·rw [if_neg c7] at H
       have c7b0 : decide (t172 < 0) = false := decide_eq_false c7
       clear c7
       have H' := Aside0.mk H
       clear H
       have p170 : 0 ≤ (x5_1 : Int) := of_decide_eq_true (by with_reducible assumption)
       have q170 : x5_1 < (l0.length : Int) := of_decide_eq_true (by with_reducible assumption)
       obtain ⟨ad170, A170_1, c170_1, e170, hx170_0, hx170_1, hl170_1, hi170_1⟩ := at_T122 HR0.out x5_1 p170 q170
       cases e170
       have HR170_1 := Aside0.mk hi170_1
       have HC170_1 := Aside0.mk hl170_1
       clear hi170_1 hl170_1
       replace p170 := eq_true p170
       replace q170 := eq_true q170
       have p171 : 0 ≤ (x5_1 : Int) := of_decide_eq_true (by with_reducible assumption)
       have q171 : x5_1 < (l0.length : Int) := of_decide_eq_true (by with_reducible assumption)
       obtain ⟨ad171, A171_1, c171_1, e171, hx171_0, hx171_1, hl171_1, hi171_1⟩ := at_T122 HR0.out x5_1 p171 q171
       obtain rfl : ad170 = ad171 := (by injection e171)
       have HR171_1 := Aside0.mk hi171_1
       have HC171_1 := Aside0.mk hl171_1
       clear hi171_1 hl171_1
       replace p171 := eq_true p171
       replace q171 := eq_true q171
       have ea_ := Option.some.inj (hx170_1.symm.trans hx171_1)
       injection ea_ with ea_ en_ ec_
       subst ea_
       subst ec_
       clear en_
       go_wp2_with (first | ((with_reducible refine gate_callee (f := 53) rfl ?_); refine goesL_ (some 27) rfl rfl Try.func53 (by kernel_rfl) rfl #[.slice A170_1 ((rd_T122 l0 x5_1).f1).length c170_1, .int .i64 (wrap64 (x1_1 + 1))] rfl (by (try simp only [List.map_toArray, List.map_cons, List.map_nil]); first | done | rfl | (simp only [List.length_drop, List.length_take]; rfl)) ?_; (with_reducible refine (laws_heldIntS.calls k1 _ _ ((rd_T122 l0 x5_1).f1) (wrap64 (x1_1 + 1)) t172 _ ?side1 ?side2 A6.out).mono ?_); (case side1 => repeat (first | exact HR171_1.out | (with_reducible refine Kd.C_alloc ?_ _) | (with_reducible refine Kd.C_drewN ?_ _) | (with_reducible refine Kd.C_drew ?_))); (case side2 => exact HC171_1.out); rintro e w' ⟨rfl, ⟨nd, rfl⟩⟩; refine ⟨_, rfl, ?_⟩))
       go_roundg k1
       case measure => have := HK1.out; omega
       case rel => exact ⟨(t172), (wrap64 (x5_1 + 1)), (by first | rfl | (simp; done) | (simp [*]; done)), (by first | rfl | (simp; done) | (simp [*]; done)), H', ⟨by have := HK1.out; omega⟩, by repeat (first | exact Drawn0.refl _ | apply Drawn0.step)⟩
     ·rw [if_neg c5] at H
      exact absurd H (by simp)
    ·rw [if_neg c4] at H
     exact absurd H (by simp)
   ·rw [if_neg c3] at H
    have c3b0 : decide (x5_1 < (l0.length : Int)) = false := decide_eq_false c3
    clear c3
    obtain rfl := Option.some.inj H
    go_wp2
    go_ret
    exact ⟨by first | rfl | (simp; done) | (simp [*]; done), by repeat (first | exact Drawn0.refl _ | apply Drawn0.step)⟩
def laws_heldMeta.f (k : Nat) (a0_0 : Int) (a0_1 : Int) (a0_2 : Int) (l0_3 : List (S122)) (a1 : Int) : Option (Int) := (laws_heldFreeS.f k l0_3 a1).bind fun t174 => (if t174 < 0 then (none) else (some t174))
theorem laws_heldMeta.calls (k : Nat) (a0_0 : Int) (a0_1 : Int) (a0_2 : Int) (A0_3 : Option Addr) (c0_3 : Nat) (l0_3 : List (S122)) (a1 : Int) (r : Int) (w : World) (hr0_3 : Kd.C k122 w A0_3 l0_3.length l0_3) (hc0_3 : l0_3.length ≤ c0_3) (h : laws_heldMeta.f k a0_0 a0_1 a0_2 l0_3 a1 = some r) :
  Calls Try.prog 45 #[.agg #[.int .i64 a0_0, .int .i64 a0_1, .int .i64 a0_2, .slice A0_3 l0_3.length c0_3], .int .i64 a1] w fun e w' => e = .returned (.int .i64 r) ∧ Below w.heap.size w w' := by
 have hu53 := Try.underlying53
 have HR0_3 := Aside0.mk hr0_3
 have HC0_3 := Aside0.mk hc0_3
 clear hr0_3 hc0_3
 have HB := Aside0.mk (Below.refl w.heap.size w)
 have H : ((laws_heldFreeS.f k l0_3 a1).bind fun t174 => (if t174 < 0 then (none) else (some t174))) = some r := h
 clear h
 replace H := Option.bind_eq_some_iff.mp H
 obtain ⟨t174, A30, H⟩ := H
 replace H : (if t174 < 0 then (none) else (some t174)) = some r := H
 have A3 := Aside0.mk A30
 clear A30
 by_cases c4 : t174 < 0
 ·rw [if_pos c4] at H
  exact absurd H (by simp)
 ·rw [if_neg c4] at H
  have c4b0 : decide (t174 < 0) = false := decide_eq_false c4
  clear c4
  obtain rfl := Option.some.inj H
  go_enter Try.func45, Try.ntmps45
  go_wp2_with (first | ((with_reducible refine gate_dst (N := 2) rfl ?_); refine box_event ?hg (N := 2) ?hd (cs := #[.int .i64 a0_0, .int .i64 a0_1, .int .i64 a0_2, .slice A0_3 l0_3.length c0_3]) (t := 53) ?hr ?_; (case hd => rfl); (case hg => rfl); (case hr => first | (go_simp; done) | (go_simp; rfl)); intro gb173 hg w5 hbox hb; have n0_ := Aside0.mk (below_step (by repeat (first | (with_reducible first | exact HB.out | apply below_alloc | apply pw_below_drewN | apply below_drew1) | exact HB.out)) hb); have n1_ := Aside0.mk (hbox); have n2_ := Aside0.mk ((by rw [hg]; exact (below_size (by repeat (first | (with_reducible first | exact HB.out | apply below_alloc | apply pw_below_drewN | apply below_drew1) | exact HB.out))) : w.heap.size ≤ gb173)); have n3_ := Aside0.mk ((by rw [hg]; exact (below_size (by repeat (first | (with_reducible first | exact HB.out | apply below_alloc | apply pw_below_drewN | apply below_drew1) | exact HB.out))) : w.heap.size ≤ gb173)); clear HB; have HB := n0_; have BK173 := n1_; have GW173 := n2_; have GE173 := n3_; clear n0_ n1_ n2_ n3_; clear hb hbox hg; have hcz6_0 : w5.cell? ⟨gb173, 0, none⟩ = some (.int .i64 a0_0) := (blk_cell BK173.out 0).trans rfl; have hcz6_1 : w5.cell? ⟨gb173, 1, none⟩ = some (.int .i64 a0_1) := (blk_cell BK173.out 1).trans rfl; have hcz6_2 : w5.cell? ⟨gb173, 2, none⟩ = some (.int .i64 a0_2) := (blk_cell BK173.out 2).trans rfl; have hcz6_3 : w5.cell? ⟨gb173, 3, none⟩ = some (.slice A0_3 l0_3.length c0_3) := (blk_cell BK173.out 3).trans rfl; have hfz6_0 := blk_frozen BK173.out 0; have hfz6_1 := blk_frozen BK173.out 1; have hfz6_2 := blk_frozen BK173.out 2; have hfz6_3 := blk_frozen BK173.out 3) | ((with_reducible refine gate_callee (f := 102) rfl ?_); refine goesL_ (some 8) rfl rfl Try.func102 (by kernel_rfl) rfl #[.slice A0_3 l0_3.length c0_3, .int .i64 a1] rfl (by (try simp only [List.map_toArray, List.map_cons, List.map_nil]); first | done | rfl | (simp only [List.length_drop, List.length_take]; rfl)) ?_; (with_reducible refine (laws_heldFreeS.calls k _ _ l0_3 a1 t174 _ ?side1 ?side2 A3.out).mono ?_); (case side1 => repeat (first | exact (Kd.C_below HR0_3.out HB.out) | (with_reducible refine Kd.C_alloc ?_ _) | (with_reducible refine Kd.C_drewN ?_ _) | (with_reducible refine Kd.C_drew ?_))); (case side2 => exact HC0_3.out); rintro e w' ⟨rfl, ⟨nd, rfl⟩⟩; refine ⟨_, rfl, ?_⟩))
  go_ret
  exact ⟨by first | rfl | (simp [errW_none, errW_some] <;> rfl) | (simp [*, errW_none, errW_some] <;> rfl), by repeat (first | (with_reducible first | exact HB.out | apply below_alloc | apply pw_below_drewN | apply below_drew1 | refine below_set ?_ GE173.out) | exact HB.out)⟩
theorem markIntS_Q (k : Nat) (P0_ : Nat → Prop) (u9000_ : Value) (l0 : List Int) (a1 : Int) (r1 : Int) (r2 : List Int) (w0 w : World) (hB : Below w0.heap.size w0 w) (ho0 : Kd.Q (Kd.int .i64) 3 w w0.heap.size P0_ u9000_ l0) (h : laws_markIntS.f k l0 a1 = some (r1, r2)) :
  Calls Try.prog 51 #[u9000_, .int .i64 a1] w fun e w' => e = .returned (.int .i64 r1) ∧ Kd.Q (Kd.int .i64) 3 w' w0.heap.size (fun k_ => (P0_ k_ ∨ w.heap.size ≤ k_)) u9000_ r2 ∧ Below w0.heap.size w0 w' ∧ Kept w w' (fun k_ => P0_ k_) := by
 have HO0 := Aside0.mk (show Kd.Q (Kd.int .i64) 3 w w0.heap.size (fun k_ => (P0_ k_ ∨ w.heap.size ≤ k_)) u9000_ l0 from Kd.Q_mono ho0 (fun k_ hk => (.inl hk)))
 have HK := Aside0.mk (Kept.refl w (fun k_ => P0_ k_))
 have HW0 := Aside0.mk hB.size
 have HB := Aside0.mk hB
 clear hB
 have H : (laws_markIntS.l0 k l0 a1 0) = some (r1, r2) := h
 clear h
 have H' := Aside0.mk H
 clear H
 go_enter Try.func51, Try.ntmps51
 go_wp2
 go_loopg [1, 5] k (fun kq v1 v5 w' => ∃ (x0_1 : List Int) (x1_1 : Int) (x5_1 : Int), v1 = .int .i64 x1_1 ∧ v5 = .int .i64 x5_1 ∧ Aside0 (laws_markIntS.l0 kq x0_1 x1_1 x5_1 = some (r1, r2)) ∧ Aside0 (kq ≤ k) ∧ Aside0 (Kd.Q (Kd.int .i64) 3 w' w0.heap.size (fun k_ => (P0_ k_ ∨ w.heap.size ≤ k_)) u9000_ x0_1) ∧ Aside0 (Kept w w' (fun k_ => P0_ k_)) ∧ Aside0 (Below w0.heap.size w0 w'))
 case atStart => exact ⟨(l0), (a1), (0), (by first | rfl | (simp; done) | (simp [*]; done)), (by first | rfl | (simp; done) | (simp [*]; done)), H', ⟨Nat.le_refl _⟩, ⟨by (with_reducible repeat (first | apply Kd.Q_alloc | apply Kd.Q_drewN | apply Kd.Q_drew)); exact HO0.out⟩, ⟨by repeat (first | (with_reducible first | exact HK.out | apply Kept.alloc | apply Kept.drewN | apply Kept.drew) | exact HK.out)⟩, ⟨by repeat (first | (with_reducible first | exact HB.out | apply below_alloc | apply pw_below_drewN | apply below_drew1) | exact HB.out)⟩⟩
 case round =>
  clear H'
  obtain ⟨x0_1, x1_1, x5_1, rfl, rfl, HA, HK1, HO_0, HK, HB⟩ := hrel
  cases gk with
  | zero => exact absurd HA.out (by simp [laws_markIntS.l0])
  | succ k1 =>
   have H := HA.out
   clear HA
   simp only [laws_markIntS.l0] at H
   by_cases c3 : x5_1 < (x0_1.length : Int)
   ·rw [if_pos c3] at H
    have c3b0 : decide (x5_1 < (x0_1.length : Int)) = true := decide_eq_true c3
    clear c3
    by_cases c4 : 0 ≤ x5_1
    ·rw [if_pos c4] at H
     have c4b0 : decide (0 ≤ x5_1) = true := decide_eq_true c4
     clear c4
     obtain ⟨y294, hy294⟩ : ∃ y_ : List Int, y_ = (x0_1.set (x5_1 : Int).toNat x1_1) := ⟨_, rfl⟩
     replace H : (laws_markIntS.l0 k1 y294 (wrap64 (x1_1 + 1)) (wrap64 (x5_1 + 1))) = some (r1, r2) := by first | (rw [hy294]; with_reducible exact H) | (have H2_ := (Option.bind_some _ _).symm.trans H; rw [hy294]; with_reducible exact H2_) | (have H2_ := (Option.bind_some _ _).symm.trans H; with_reducible exact H2_) | with_reducible exact H | (rw [hy294]; exact H) | exact H
     have Ny294 := Aside0.mk hy294
     clear hy294
     have H' := Aside0.mk H
     clear H
     obtain ⟨Ao6, co6, eo6, _⟩ := Kd.Q_slice HO_0.out
     subst eo6
     have p5 : 0 ≤ (x5_1 : Int) := of_decide_eq_true (by with_reducible assumption)
     have q5 : (x5_1 : Int) < ((x0_1.length : Int) : Int) := of_decide_eq_true (by with_reducible assumption)
     obtain ⟨go5, oo5, co5, eo5, gb5, gl5, cl5, HG5⟩ := Kd.Q_form HO_0.out (by omega)
     (first | cases eo5 | (injection eo5 with ea_ en_ ec_; (first | subst ea_ | (injection ea_ with ea_; subst ea_)); subst ec_; clear en_))
     have GB5 := Aside0.mk gb5
     have GG5 := Aside0.mk HG5
     clear gb5 gl5 HG5
     have HMgo5 := Aside0.mk (show (P0_ go5 ∨ w.heap.size ≤ go5) from (HO_0.out.1 _ rfl))
     obtain ⟨hx5_0, hf5_0⟩ := Kd.Q_cell 0 HO_0.out (x5_1 : Int) p5 q5
     have p5q := p5
     have q5q := q5
     replace p5 := eq_true p5
     replace q5 := eq_true q5
     have HP7 := Kd.Q_putg HO_0.out (x5_1 : Int) p5q q5q x1_1
     go_wp2_with (first | ((with_reducible refine gate_store (t := 3) (p := 15) rfl ?_); refine store_event (t := 3) (p := 15) (v := ?vo_w8) (w1 := (wr.setCell ⟨go5, oo5 + (x5_1 : Int).toNat, none⟩ (.int .i64 x1_1))) ?hg ?ho ?hn ?hr ?_; (case ho => rfl); (case hg => rfl); (case hn => rfl); (case hr => first | (go_simp; done) | (go_simp; rfl)); intro w8 hw; have hg : wr.grownBy w8 (some go5) := (by rw [hw]; exact HP7.2); have hp_ : Kd.Q (Kd.int .i64) 3 w8 w0.heap.size (fun k_ => (P0_ k_ ∨ w.heap.size ≤ k_)) (.slice (some ⟨go5, oo5, none⟩) x0_1.length co6) y294 := (by rw [hw, Ny294.out]; exact HP7.1); clear HP7; have n0_ := Aside0.mk (hp_); have n1_ := Aside0.mk ((by rw [hw]; exact below_set (HB.out) GB5.out : Below w0.heap.size w0 w8)); have n2_ := Aside0.mk (Kept.of_grown (S := (fun k_ => P0_ k_)) hg (by repeat (first | (with_reducible first | exact HK.out | apply Kept.alloc | apply Kept.drewN | apply Kept.drew) | exact HK.out)) (fun k_ e_ => (HO_0.out.1 k_ e_))); clear HO_0; clear HB; clear HK; have HO_0 := n0_; have HB := n1_; have HK := n2_; clear n0_ n1_ n2_; clear hg hw hp_))
     go_roundg k1
     case measure => have := HK1.out; omega
     case rel => exact ⟨(y294), (wrap64 (x1_1 + 1)), (wrap64 (x5_1 + 1)), (by first | rfl | (simp; done) | (simp [*]; done)), (by first | rfl | (simp; done) | (simp [*]; done)), H', ⟨by have := HK1.out; omega⟩, ⟨by (with_reducible repeat (first | apply Kd.Q_alloc | apply Kd.Q_drewN | apply Kd.Q_drew)); exact HO_0.out⟩, ⟨by repeat (first | (with_reducible first | exact HK.out | apply Kept.alloc | apply Kept.drewN | apply Kept.drew) | exact HK.out)⟩, ⟨by repeat (first | (with_reducible first | exact HB.out | apply below_alloc | apply pw_below_drewN | apply below_drew1) | exact HB.out)⟩⟩
    ·rw [if_neg c4] at H
     exact absurd H (by simp)
   ·rw [if_neg c3] at H
    have c3b0 : decide (x5_1 < (x0_1.length : Int)) = false := decide_eq_false c3
    clear c3
    simp only [Option.some.injEq, Prod.mk.injEq] at H
    obtain ⟨rfl, rfl⟩ := H
    obtain ⟨Ao9, co9, eo9, _⟩ := Kd.Q_slice HO_0.out
    subst eo9
    go_wp2
    go_ret
    exact ⟨by first | rfl | (simp [errW_none, errW_some] <;> rfl) | (simp [*, errW_none, errW_some] <;> rfl), by (with_reducible repeat (first | apply Kd.Q_alloc | apply Kd.Q_drewN | apply Kd.Q_drew)); exact HO_0.out, by repeat (first | (with_reducible first | exact HB.out | apply below_alloc | apply pw_below_drewN | apply below_drew1) | exact HB.out), by repeat (first | (with_reducible first | exact HK.out | apply Kept.alloc | apply Kept.drewN | apply Kept.drew) | exact HK.out)⟩
def markF.l0 : Nat → List S122 → Int → Int → Option (Int × List S122)
 | 0, _, _, _ => none
 | k + 1, xs, a, i => if i < (xs.length : Int) then (if 0 ≤ i then (laws_markIntS.f k (rd_T122 xs i).f1 (wrap64 (a + 1))).bind fun b => markF.l0 k (xs.set i.toNat (⟨a, b.2⟩ : S122)) b.1 (wrap64 (i + 1)) else none) else some (a, xs)
theorem markFreeS_o (k : Nat) (ok : Nat → Prop) (v : Value) (l0 : List S122) (a r : Int) (r2 : List S122) (w0 w : World) (hB : Below w0.heap.size w0 w) (hS : Kd.S k122 122 w w0.heap.size ok v l0) (h : markF.l0 k l0 a 0 = some (r, r2)) :
  Calls Try.prog 101 #[v, .int .i64 a] w fun e w' => e = .returned (.int .i64 r) ∧ Kd.S k122 122 w' w0.heap.size ok v r2 ∧ Below w0.heap.size w0 w' ∧ Kept w w' ok := by
 obtain ⟨A, cc, rfl⟩ := Kd.S_slice hS
 have HO := Aside0.mk hS
 have HK := Aside0.mk (Kept.refl w ok)
 have HB := Aside0.mk hB
 have H' := Aside0.mk h
 clear h hB hS
 go_enter Try.func101, Try.ntmps101
 go_wp2
 go_loopg [1, 5] k (fun kq v1 v5 w' => ∃ (xs : List S122) (x1 : Int) (x5 : Int), v1 = .int .i64 x1 ∧ v5 = .int .i64 x5 ∧ Aside0 (markF.l0 kq xs x1 x5 = some (r, r2)) ∧ Aside0 (kq ≤ k) ∧ Aside0 (Kd.S k122 122 w' w0.heap.size ok (.slice A l0.length cc) xs) ∧ Aside0 (Kept w w' ok) ∧ Aside0 (Below w0.heap.size w0 w'))
 case atStart => exact ⟨l0, a, 0, rfl, rfl, H', ⟨Nat.le_refl _⟩, HO, HK, HB⟩
 case round =>
  clear H' HO HK HB
  obtain ⟨xs, x1, x5, rfl, rfl, HA, HK1, HO, HK, HB⟩ := hrel
  have hlen := Aside0.mk (Kd.S_reads' HO.out).1
  cases gk with
  | zero => exact absurd HA.out (by simp [markF.l0])
  | succ k1 =>
   have H := HA.out
   clear HA
   simp only [markF.l0, ← hlen.out] at H
   by_cases c3 : x5 < (l0.length : Int)
   ·rw [if_pos c3] at H
    by_cases c4 : 0 ≤ x5
    ·rw [if_pos c4] at H
     obtain ⟨⟨t, ys⟩, A0, H⟩ := Option.bind_eq_some_iff.mp H
     have MA := Aside0.mk A0
     have H' := Aside0.mk H
     clear A0 H
     have c3b : decide (x5 < (l0.length : Int)) = true := decide_eq_true c3
     have c4b : decide (0 ≤ x5) = true := decide_eq_true c4
     have c3x : x5 < (xs.length : Int) := by rw [← hlen.out]; exact c3
     obtain ⟨g, cap, hv, gb, gl, cl, HG⟩ := Kd.S_form HO.out (by omega)
     injection hv with hA hn hc; subst hA; subst hc; clear hn
     obtain ⟨oki, c, hcl, hM, hcc, hfr, hoki, hH⟩ := Kd.S_elem HO.out z122 x5 c4 c3
     obtain ⟨el, hel⟩ : ∃ el, el = xs.getD x5.toNat z122 := ⟨_, rfl⟩
     rw [← hel] at hM
     have hel2 : rd_T122 xs x5 = el := hel.symm
     rw [hel2] at MA
     clear hel hel2
     obtain ⟨v1, rfl, R1⟩ := k122_openM hM
     obtain ⟨A1, c1, rfl⟩ := Kd.R_slice R1
     have hx0 := hcc 0 _ rfl
     have hx1 := hcc 1 _ rfl
     have hf0 := hfr 0
     have hf1 := hfr 1
     rw [show k122.sz = 2 from rfl, Nat.add_zero] at hx0 hf0
     rw [show k122.sz = 2 from rfl] at hx1 hf1
     have hP := Kd.H_seg hH c4 c3 (seg := [.int .i64 x1]) (j := 0) (show 0 + 1 ≤ 2 from by decide) (by intro q hq; rw [List.mem_singleton.1 hq]; rfl)
     rw [show k122.sz = 2 from rfl, Nat.add_zero] at hP
     have HH := Aside0.mk (show Kd.H k122 122 (wr.setCell ⟨g, x5.toNat * 2, none⟩ (.int .i64 x1)) w0.heap.size ok (.slice (some ⟨g, 0, none⟩) l0.length cc) xs x5 oki [.int .i64 x1, .slice A1 el.f1.length c1] from hP.1)
     have HGr := Aside0.mk (show wr.grownBy (wr.setCell ⟨g, x5.toNat * 2, none⟩ (.int .i64 x1)) (some g) from hP.2)
     have hok := HO.out.choose_spec.1 g rfl
     have OKI := Aside0.mk hoki
     have RI := Aside0.mk R1
     have GB := Aside0.mk gb
     have OG := Aside0.mk hok
     clear hcc hfr hoki hH hM R1 hcl hP HO c3x hok gb H
     go_wp2_with fail
     clear hx0 hx1 hf0 hf1
     obtain ⟨W1, hW1⟩ : ∃ W, W = wr.setCell ⟨g, x5.toNat * 2, none⟩ (.int .i64 x1) := ⟨_, rfl⟩
     rw [← hW1] at HH HGr
     rw [← hW1]
     clear hW1
     have n0 := Aside0.mk (Kept.of_grown HGr.out HK.out (fun k e => by injection e with e; subst e; exact .inl OG.out))
     have n1 := Aside0.mk (Below.grown HB.out HGr.out (Below.size HB.out) (fun k e => by injection e with e; subst e; exact GB.out))
     have n2 := Aside0.mk (Kd.R_grown RI.out HGr.out (fun k hk e => by injection e with e; exact (OKI.out k hk).2 e))
     clear HK HB RI HGr
     ((with_reducible refine (laws_markIntS.calls k1 oki _ el.f1 (wrap64 (x1 + 1)) t ys w0 _ n1.out n2.out MA.out).mono ?_); rintro e w2 ⟨rfl, hR, hB2, hK2⟩)
     have HB := Aside0.mk hB2
     have HK := Aside0.mk (Kept.then_ n0.out hK2 (fun k h => .inl (OKI.out k h).1))
     have RI := Aside0.mk (Own.R_tight2 rfl hR n2.out.1)
     have H2 := Aside0.mk (Kd.H_step HH.out (fun k h1 h2 h3 => hK2.2 k h3 h2))
     have HS := Aside0.mk (Kd.H_back H2.out (x' := (⟨x1, ys⟩ : S122)) (okp := oki) (by
      have hl := (Kd.R_reads' RI.out).1
      rw [hl]
      have h3 := RI.out
      rw [hl] at h3
      exact k122_mkM _ _ _ (⟨x1, ys⟩ : S122) h3) (fun _ h => h))
     clear n0 n1 n2 hR hB2 hK2 HH H2 RI
     go_wp2
     go_roundg k1
     case measure => have := HK1.out; omega
     case rel => exact ⟨_, _, _, rfl, rfl, H', ⟨by have := HK1.out; omega⟩, HS, HK, HB⟩
    ·rw [if_neg c4] at H
     exact absurd H (by simp)
   ·rw [if_neg c3] at H
    have c3b : decide (x5 < (l0.length : Int)) = false := decide_eq_false c3
    obtain ⟨rfl, rfl⟩ : x1 = r ∧ xs = r2 := by simpa using H
    go_wp2
    go_ret
    exact ⟨rfl, HO.out, HB.out, HK.out⟩
def kDisk : Kd ((List ByteArray) × (List S135)) := Own.apair (Own.srow 9 Kd.string) (Own.srow 135 k135)
theorem kDisk_open {w : World} {l0 : List ByteArray} {l1 : List S135} {cs : List Value} (h : kDisk.K w (l0, l1) cs) : ∃ A0 c0 A1 c1, cs = [.slice A0 l0.length c0, .slice A1 l1.length c1] ∧ l0.length ≤ c0 ∧ Kd.C Kd.string w A0 l0.length l0 ∧ l1.length ≤ c1 ∧ Kd.C k135 w A1 l1.length l1 := by
 obtain ⟨y0, _, rfl, ⟨A0, c0, rfl, m0, r0⟩, ⟨A1, c1, rfl, m1, r1⟩⟩ := h
 exact ⟨A0, c0, A1, c1, rfl, m0, r0, m1, r1⟩
theorem kDisk_mkM {w : World} {base : Nat} {ok : Nat → Prop} {l0 : List ByteArray} {l1 : List S135} {v0 : Value} {P0 : Nat → Prop} {v1 : Value} {P1 : Nat → Prop} (r0 : Kd.R Kd.string 9 w base P0 v0 l0) (r1 : Kd.R k135 135 w base P1 v1 l1) (o0 : ∀ k, P0 k → ok k) (o1 : ∀ k, P1 k → ok k) (x0_1 : ∀ k, P0 k → ¬ P1 k) : kDisk.M w base ok (l0, l1) [v0, v1] := by
 have t1 := (show (Own.srow 135 k135).M w base P1 l1 [v1] from ((Own.srow 135 k135).M_mono (fun k hk => (r1.1 k hk.symm)) (Own.srow_of_R rfl r1)))
 have t0 := Own.apair_mk (ok := ok) (okA := fun k => P0 k) (okB := fun k => P1 k) (show (Own.srow 9 Kd.string).M w base P0 l0 [v0] from ((Own.srow 9 Kd.string).M_mono (fun k hk => (r0.1 k hk.symm)) (Own.srow_of_R rfl r0))) t1 (fun k h => o0 k h) (fun k h => o1 k h) (fun k h1 h2 => x0_1 k h1 h2)
 exact t0
def kDiskL : Kd ((List ByteArray) × (List S140)) := Own.apair (Own.srow 9 Kd.string) (Own.srow 140 k140)
theorem kDiskL_open {w : World} {l0 : List ByteArray} {l1 : List S140} {cs : List Value} (h : kDiskL.K w (l0, l1) cs) : ∃ A0 c0 A1 c1, cs = [.slice A0 l0.length c0, .slice A1 l1.length c1] ∧ l0.length ≤ c0 ∧ Kd.C Kd.string w A0 l0.length l0 ∧ l1.length ≤ c1 ∧ Kd.C k140 w A1 l1.length l1 := by
 obtain ⟨y0, _, rfl, ⟨A0, c0, rfl, m0, r0⟩, ⟨A1, c1, rfl, m1, r1⟩⟩ := h
 exact ⟨A0, c0, A1, c1, rfl, m0, r0, m1, r1⟩
def kWork : Kd ((List ByteArray) × (List S135) × Int × (List Int) × (List Int) × (List Int)) := Own.apair (Own.srow 9 Kd.string) (Own.apair (Own.srow 135 k135) (Own.apair (Kd.int .i64) (Own.apair (Own.arow 3 (Kd.int .i64)) (Own.apair (Own.arow 3 (Kd.int .i64)) (Own.arow 3 (Kd.int .i64))))))
theorem kWork_open {w : World} {l0 : List ByteArray} {l1 : List S135} {l2 : Int} {l3 : List Int} {l4 : List Int} {l5 : List Int} {cs : List Value} (h : kWork.K w (l0, l1, l2, l3, l4, l5) cs) : ∃ A0 c0 A1 c1 A3 c3 A4 c4 A5 c5, cs = [.slice A0 l0.length c0, .slice A1 l1.length c1, .int .i64 l2, .slice A3 l3.length c3, .slice A4 l4.length c4, .slice A5 l5.length c5] ∧ l0.length ≤ c0 ∧ Kd.C Kd.string w A0 l0.length l0 ∧ l1.length ≤ c1 ∧ Kd.C k135 w A1 l1.length l1 ∧ l3.length ≤ c3 ∧ Kd.C (Kd.int .i64) w A3 l3.length l3 ∧ l4.length ≤ c4 ∧ Kd.C (Kd.int .i64) w A4 l4.length l4 ∧ l5.length ≤ c5 ∧ Kd.C (Kd.int .i64) w A5 l5.length l5 := by
 obtain ⟨y0, _, rfl, ⟨A0, c0, rfl, m0, r0⟩, ⟨y1, _, rfl, ⟨A1, c1, rfl, m1, r1⟩, ⟨y2, _, rfl, e2, ⟨y3, _, rfl, ⟨A3, c3, rfl, m3, r3⟩, ⟨y4, _, rfl, ⟨A4, c4, rfl, m4, r4⟩, ⟨A5, c5, rfl, m5, r5⟩⟩⟩⟩⟩⟩ := h
 obtain rfl : y2 = [.int .i64 l2] := e2
 exact ⟨A0, c0, A1, c1, A3, c3, A4, c4, A5, c5, rfl, m0, r0, m1, r1, m3, r3, m4, r4, m5, r5⟩
theorem kWork_openM {w : World} {base : Nat} {ok : Nat → Prop} {l0 : List ByteArray} {l1 : List S135} {l2 : Int} {l3 : List Int} {l4 : List Int} {l5 : List Int} {cs : List Value} (h : kWork.M w base ok (l0, l1, l2, l3, l4, l5) cs) : ∃ v0 v1 v3 v4 v5, ∃ P0 P1 P3 P4 P5 : Nat → Prop, cs = [v0, v1, .int .i64 l2, v3, v4, v5] ∧ Kd.R Kd.string 9 w base P0 v0 l0 ∧ Kd.R k135 135 w base P1 v1 l1 ∧ Kd.Q (Kd.int .i64) 3 w base P3 v3 l3 ∧ Kd.Q (Kd.int .i64) 3 w base P4 v4 l4 ∧ Kd.Q (Kd.int .i64) 3 w base P5 v5 l5 ∧ (∀ k, P0 k → ok k) ∧ (∀ k, P1 k → ok k) ∧ (∀ k, P3 k → ok k) ∧ (∀ k, P4 k → ok k) ∧ (∀ k, P5 k → ok k) ∧ (∀ k, P0 k → ¬ P1 k) ∧ (∀ k, P0 k → ¬ P3 k) ∧ (∀ k, P0 k → ¬ P4 k) ∧ (∀ k, P0 k → ¬ P5 k) ∧ (∀ k, P1 k → ¬ P3 k) ∧ (∀ k, P1 k → ¬ P4 k) ∧ (∀ k, P1 k → ¬ P5 k) ∧ (∀ k, P3 k → ¬ P4 k) ∧ (∀ k, P3 k → ¬ P5 k) ∧ (∀ k, P4 k → ¬ P5 k) := by
 obtain ⟨c0, d0, P0, B0, rfl, h0, h, a0, b0, x0⟩ := Own.apair_open h
 obtain ⟨c1, d1, P1, B1, rfl, h1, h, a1, b1, x1⟩ := Own.apair_open h
 obtain ⟨c2, d2, P2, B2, rfl, h2, h, a2, b2, x2⟩ := Own.apair_open h
 obtain ⟨c3, d3, P3, B3, rfl, h3, h, a3, b3, x3⟩ := Own.apair_open h
 obtain ⟨c4, d4, P4, B4, rfl, h4, h, a4, b4, x4⟩ := Own.apair_open h
 have h5 := h
 obtain ⟨v0, e0, h0⟩ := h0
 subst e0
 obtain ⟨v1, e1, h1⟩ := h1
 subst e1
 obtain rfl : c2 = [.int .i64 l2] := h2
 obtain ⟨v3, f3, e3, h3⟩ := h3
 subst e3
 obtain ⟨v4, f4, e4, h4⟩ := h4
 subst e4
 obtain ⟨v5, f5, e5, h5⟩ := h5
 subst e5
 exact ⟨v0, v1, v3, v4, v5, P0, P1, P3, P4, B4, rfl, Kd.S_R h0, Kd.S_R h1, Own.tagQ h3, Own.tagQ h4, Own.tagQ h5, fun k h2 => a0 k h2, fun k h2 => b0 k (a1 k h2), fun k h2 => b0 k (b1 k (b2 k (a3 k h2))), fun k h2 => b0 k (b1 k (b2 k (b3 k (a4 k h2)))), fun k h2 => b0 k (b1 k (b2 k (b3 k (b4 k (h2))))), fun k h1 h2 => x0 k h1 (a1 k h2), fun k h1 h2 => x0 k h1 (b1 k (b2 k (a3 k h2))), fun k h1 h2 => x0 k h1 (b1 k (b2 k (b3 k (a4 k h2)))), fun k h1 h2 => x0 k h1 (b1 k (b2 k (b3 k (b4 k (h2))))), fun k h1 h2 => x1 k h1 (b2 k (a3 k h2)), fun k h1 h2 => x1 k h1 (b2 k (b3 k (a4 k h2))), fun k h1 h2 => x1 k h1 (b2 k (b3 k (b4 k (h2)))), fun k h1 h2 => x3 k h1 (a4 k h2), fun k h1 h2 => x3 k h1 (b4 k (h2)), fun k h1 h2 => x4 k h1 (h2)⟩
theorem kWork_mkM {w : World} {base : Nat} {ok : Nat → Prop} {l0 : List ByteArray} {l1 : List S135} {l2 : Int} {l3 : List Int} {l4 : List Int} {l5 : List Int} {v0 : Value} {P0 : Nat → Prop} {v1 : Value} {P1 : Nat → Prop} {v3 : Value} {P3 : Nat → Prop} {v4 : Value} {P4 : Nat → Prop} {v5 : Value} {P5 : Nat → Prop} (r0 : Kd.R Kd.string 9 w base P0 v0 l0) (r1 : Kd.R k135 135 w base P1 v1 l1) (r3 : Kd.Q (Kd.int .i64) 3 w base P3 v3 l3) (r4 : Kd.Q (Kd.int .i64) 3 w base P4 v4 l4) (r5 : Kd.Q (Kd.int .i64) 3 w base P5 v5 l5) (o0 : ∀ k, P0 k → ok k) (o1 : ∀ k, P1 k → ok k) (o3 : ∀ k, P3 k → ok k) (o4 : ∀ k, P4 k → ok k) (o5 : ∀ k, P5 k → ok k) (x0_1 : ∀ k, P0 k → ¬ P1 k) (x0_3 : ∀ k, P0 k → ¬ P3 k) (x0_4 : ∀ k, P0 k → ¬ P4 k) (x0_5 : ∀ k, P0 k → ¬ P5 k) (x1_3 : ∀ k, P1 k → ¬ P3 k) (x1_4 : ∀ k, P1 k → ¬ P4 k) (x1_5 : ∀ k, P1 k → ¬ P5 k) (x3_4 : ∀ k, P3 k → ¬ P4 k) (x3_5 : ∀ k, P3 k → ¬ P5 k) (x4_5 : ∀ k, P4 k → ¬ P5 k) : kWork.M w base ok (l0, l1, l2, l3, l4, l5) [v0, v1, .int .i64 l2, v3, v4, v5] := by
 have t5 := (show (Own.arow 3 (Kd.int .i64)).M w base P5 l5 [v5] from Own.arow_of_Q rfl r5)
 have t4 := Own.apair_mk (ok := fun k => P4 k ∨ P5 k) (okA := fun k => P4 k) (okB := fun k => P5 k) (show (Own.arow 3 (Kd.int .i64)).M w base P4 l4 [v4] from Own.arow_of_Q rfl r4) t5 (fun k h => .inl h) (fun k h => .inr h) (fun k h1 h2 => x4_5 k h1 h2)
 have t3 := Own.apair_mk (ok := fun k => P3 k ∨ P4 k ∨ P5 k) (okA := fun k => P3 k) (okB := fun k => P4 k ∨ P5 k) (show (Own.arow 3 (Kd.int .i64)).M w base P3 l3 [v3] from Own.arow_of_Q rfl r3) t4 (fun k h => .inl h) (fun k h => .inr h) (fun k h1 h => by
  rcases h with h | h
  ·exact x3_4 k h1 h
  ·exact x3_5 k h1 h)
 have t2 := Own.apair_mk (ok := fun k => P3 k ∨ P4 k ∨ P5 k) (okA := fun _ => False) (okB := fun k => P3 k ∨ P4 k ∨ P5 k) (show (Kd.int .i64).M w base (fun _ => False) l2 [.int .i64 l2] from rfl) t3 (fun k h => h.elim) (fun k h => h) (fun k h1 _ => h1.elim)
 have t1 := Own.apair_mk (ok := fun k => P1 k ∨ P3 k ∨ P4 k ∨ P5 k) (okA := fun k => P1 k) (okB := fun k => P3 k ∨ P4 k ∨ P5 k) (show (Own.srow 135 k135).M w base P1 l1 [v1] from ((Own.srow 135 k135).M_mono (fun k hk => (r1.1 k hk.symm)) (Own.srow_of_R rfl r1))) t2 (fun k h => .inl h) (fun k h => .inr h) (fun k h1 h => by
  rcases h with h | h | h
  ·exact x1_3 k h1 h
  ·exact x1_4 k h1 h
  ·exact x1_5 k h1 h)
 have t0 := Own.apair_mk (ok := ok) (okA := fun k => P0 k) (okB := fun k => P1 k ∨ P3 k ∨ P4 k ∨ P5 k) (show (Own.srow 9 Kd.string).M w base P0 l0 [v0] from ((Own.srow 9 Kd.string).M_mono (fun k hk => (r0.1 k hk.symm)) (Own.srow_of_R rfl r0))) t1 (fun k h => o0 k h) (fun k h => by
  rcases h with h | h | h | h
  ·exact o1 k h
  ·exact o3 k h
  ·exact o4 k h
  ·exact o5 k h) (fun k h1 h => by
  rcases h with h | h | h | h
  ·exact x0_1 k h1 h
  ·exact x0_3 k h1 h
  ·exact x0_4 k h1 h
  ·exact x0_5 k h1 h)
 exact t0
def kWorkL : Kd ((List ByteArray) × (List S140) × Int × (List Int) × (List Int) × (List Int)) := Own.apair (Own.srow 9 Kd.string) (Own.apair (Own.srow 140 k140) (Own.apair (Kd.int .i64) (Own.apair (Own.arow 3 (Kd.int .i64)) (Own.apair (Own.arow 3 (Kd.int .i64)) (Own.arow 3 (Kd.int .i64))))))
theorem kWorkL_open {w : World} {l0 : List ByteArray} {l1 : List S140} {l2 : Int} {l3 : List Int} {l4 : List Int} {l5 : List Int} {cs : List Value} (h : kWorkL.K w (l0, l1, l2, l3, l4, l5) cs) : ∃ A0 c0 A1 c1 A3 c3 A4 c4 A5 c5, cs = [.slice A0 l0.length c0, .slice A1 l1.length c1, .int .i64 l2, .slice A3 l3.length c3, .slice A4 l4.length c4, .slice A5 l5.length c5] ∧ l0.length ≤ c0 ∧ Kd.C Kd.string w A0 l0.length l0 ∧ l1.length ≤ c1 ∧ Kd.C k140 w A1 l1.length l1 ∧ l3.length ≤ c3 ∧ Kd.C (Kd.int .i64) w A3 l3.length l3 ∧ l4.length ≤ c4 ∧ Kd.C (Kd.int .i64) w A4 l4.length l4 ∧ l5.length ≤ c5 ∧ Kd.C (Kd.int .i64) w A5 l5.length l5 := by
 obtain ⟨y0, _, rfl, ⟨A0, c0, rfl, m0, r0⟩, ⟨y1, _, rfl, ⟨A1, c1, rfl, m1, r1⟩, ⟨y2, _, rfl, e2, ⟨y3, _, rfl, ⟨A3, c3, rfl, m3, r3⟩, ⟨y4, _, rfl, ⟨A4, c4, rfl, m4, r4⟩, ⟨A5, c5, rfl, m5, r5⟩⟩⟩⟩⟩⟩ := h
 obtain rfl : y2 = [.int .i64 l2] := e2
 exact ⟨A0, c0, A1, c1, A3, c3, A4, c4, A5, c5, rfl, m0, r0, m1, r1, m3, r3, m4, r4, m5, r5⟩
theorem kWorkL_mk {w : World} {l0 : List ByteArray} {l1 : List S140} {l2 : Int} {l3 : List Int} {l4 : List Int} {l5 : List Int} {A0 : Option Addr} {c0 : Nat} {A1 : Option Addr} {c1 : Nat} {A3 : Option Addr} {c3 : Nat} {A4 : Option Addr} {c4 : Nat} {A5 : Option Addr} {c5 : Nat} (m0 : l0.length ≤ c0) (r0 : Kd.C Kd.string w A0 l0.length l0) (m1 : l1.length ≤ c1) (r1 : Kd.C k140 w A1 l1.length l1) (m3 : l3.length ≤ c3) (r3 : Kd.C (Kd.int .i64) w A3 l3.length l3) (m4 : l4.length ≤ c4) (r4 : Kd.C (Kd.int .i64) w A4 l4.length l4) (m5 : l5.length ≤ c5) (r5 : Kd.C (Kd.int .i64) w A5 l5.length l5) : kWorkL.K w (l0, l1, l2, l3, l4, l5) [.slice A0 l0.length c0, .slice A1 l1.length c1, .int .i64 l2, .slice A3 l3.length c3, .slice A4 l4.length c4, .slice A5 l5.length c5] := ⟨[_], [_, _, _, _, _], rfl, ⟨A0, c0, rfl, m0, r0⟩, ⟨[_], [_, _, _, _], rfl, ⟨A1, c1, rfl, m1, r1⟩, ⟨[_], [_, _, _], rfl, rfl, ⟨[_], [_, _], rfl, ⟨A3, c3, rfl, m3, r3⟩, ⟨[_], [_], rfl, ⟨A4, c4, rfl, m4, r4⟩, ⟨A5, c5, rfl, m5, r5⟩⟩⟩⟩⟩⟩
theorem markWork_o (k : Nat) (l0 : List ByteArray) (l1 : List S135) (l2 : Int) (l3 : List Int) (l4 : List Int) (l5 : List Int) (q0 : List ByteArray) (q1 : List S135) (q3 : List Int) (q4 : List Int) (q5 : List Int) (a t1 t2 t3 r : Int) (ok : Nat → Prop) {cs : List Value} (w0 w : World) (hB : Below w0.heap.size w0 w) (hk : ∀ k, ok k → k < w.heap.size) (h : kWork.M w w0.heap.size ok (l0, l1, l2, l3, l4, l5) cs)
  (f1 : laws_markDisk.f k l0 l1 a = some (t1, q0, q1)) (f2 : laws_markIntS.f k l3 t1 = some (t2, q3)) (f3 : laws_markIntS.f k l4 t2 = some (t3, q4)) (f4 : laws_markIntS.f k l5 t3 = some (r, q5)) :
  Calls Try.prog 14 #[.agg cs.toArray, .int .i64 a] w fun e w' => e = .returned (.int .i64 r) ∧ kWork.M w' w0.heap.size ok (q0, q1, l2, q3, q4, q5) cs ∧ Below w0.heap.size w0 w' ∧ Kept w w' ok := by
 obtain ⟨v0, v1, v3, v4, v5, P0, P1, P3, P4, P5, rfl, R0, R1, R3, R4, R5, o0, o1, o3, o4, o5, x01, x03, x04, x05, x13, x14, x15, x34, x35, x45⟩ := kWork_openM h
 have bd0 : ∀ k, P0 k → k < w.heap.size := fun k h => hk k (o0 k h)
 have bd1 : ∀ k, P1 k → k < w.heap.size := fun k h => hk k (o1 k h)
 have bd3 : ∀ k, P3 k → k < w.heap.size := fun k h => hk k (o3 k h)
 have bd4 : ∀ k, P4 k → k < w.heap.size := fun k h => hk k (o4 k h)
 have bd5 : ∀ k, P5 k → k < w.heap.size := fun k h => hk k (o5 k h)
 clear h
 obtain ⟨A0, c0, rfl⟩ := Kd.R_slice R0
 obtain ⟨A1, c1, rfl⟩ := Kd.R_slice R1
 obtain ⟨A3, c3, rfl, _⟩ := Kd.Q_slice R3
 obtain ⟨A4, c4, rfl, _⟩ := Kd.Q_slice R4
 obtain ⟨A5, c5, rfl, _⟩ := Kd.Q_slice R5
 have e0 := R0.1
 have e1 := R1.1
 have e3 := R3.1
 have e4 := R4.1
 have e5 := R5.1
 have K1 := Aside0.mk f1
 have K2 := Aside0.mk f2
 have K3 := Aside0.mk f3
 have K4 := Aside0.mk f4
 clear f1 f2 f3 f4
 replace R0 := Aside0.mk (Kd.R_alloc R0 (.cells #[.slice A0 l0.length c0, .slice A1 l1.length c1, .int .i64 l2, .slice A3 l3.length c3, .slice A4 l4.length c4, .slice A5 l5.length c5] 34))
 replace R1 := Aside0.mk (Kd.R_alloc R1 (.cells #[.slice A0 l0.length c0, .slice A1 l1.length c1, .int .i64 l2, .slice A3 l3.length c3, .slice A4 l4.length c4, .slice A5 l5.length c5] 34))
 replace R3 := Aside0.mk (Kd.Q_alloc R3 (.cells #[.slice A0 l0.length c0, .slice A1 l1.length c1, .int .i64 l2, .slice A3 l3.length c3, .slice A4 l4.length c4, .slice A5 l5.length c5] 34))
 replace R4 := Aside0.mk (Kd.Q_alloc R4 (.cells #[.slice A0 l0.length c0, .slice A1 l1.length c1, .int .i64 l2, .slice A3 l3.length c3, .slice A4 l4.length c4, .slice A5 l5.length c5] 34))
 replace R5 := Aside0.mk (Kd.Q_alloc R5 (.cells #[.slice A0 l0.length c0, .slice A1 l1.length c1, .int .i64 l2, .slice A3 l3.length c3, .slice A4 l4.length c4, .slice A5 l5.length c5] 34))
 have HB := Aside0.mk (Own.below_more hB (.cells #[.slice A0 l0.length c0, .slice A1 l1.length c1, .int .i64 l2, .slice A3 l3.length c3, .slice A4 l4.length c4, .slice A5 l5.length c5] 34))
 have BX := Aside0.mk (blk_new w (.cells #[.slice A0 l0.length c0, .slice A1 l1.length c1, .int .i64 l2, .slice A3 l3.length c3, .slice A4 l4.length c4, .slice A5 l5.length c5] 34))
 have HK := Aside0.mk (Kept.alloc (Kept.refl w ok) (.cells #[.slice A0 l0.length c0, .slice A1 l1.length c1, .int .i64 l2, .slice A3 l3.length c3, .slice A4 l4.length c4, .slice A5 l5.length c5] 34))
 have L0 := Aside0.mk hB.size
 clear hB
 have O0 := Aside0.mk o0
 have O1 := Aside0.mk o1
 have O3 := Aside0.mk o3
 have O4 := Aside0.mk o4
 have O5 := Aside0.mk o5
 have X01 := Aside0.mk x01
 have X03 := Aside0.mk x03
 have X04 := Aside0.mk x04
 have X05 := Aside0.mk x05
 have X13 := Aside0.mk x13
 have X14 := Aside0.mk x14
 have X15 := Aside0.mk x15
 have X34 := Aside0.mk x34
 have X35 := Aside0.mk x35
 have X45 := Aside0.mk x45
 clear o0 o1 o3 o4 o5 x01 x03 x04 x05 x13 x14 x15 x34 x35 x45
 have bx : ∀ k, P0 k ∨ P1 k ∨ P3 k ∨ P4 k ∨ P5 k → k < (w.alloc (.cells #[.slice A0 l0.length c0, .slice A1 l1.length c1, .int .i64 l2, .slice A3 l3.length c3, .slice A4 l4.length c4, .slice A5 l5.length c5] 34)).heap.size → True := fun _ _ _ => trivial
 clear bx
 have nb0 : ¬ P0 w.heap.size := fun h => Nat.lt_irrefl _ (bd0 _ h)
 have nb1 : ¬ P1 w.heap.size := fun h => Nat.lt_irrefl _ (bd1 _ h)
 have nb3 : ¬ P3 w.heap.size := fun h => Nat.lt_irrefl _ (bd3 _ h)
 have nb4 : ¬ P4 w.heap.size := fun h => Nat.lt_irrefl _ (bd4 _ h)
 have nb5 : ¬ P5 w.heap.size := fun h => Nat.lt_irrefl _ (bd5 _ h)
 go_enter Try.func14, Try.ntmps14
 have hx0 : (w.alloc (.cells #[.slice A0 l0.length c0, .slice A1 l1.length c1, .int .i64 l2, .slice A3 l3.length c3, .slice A4 l4.length c4, .slice A5 l5.length c5] 34)).cell? ⟨w.heap.size, 0, none⟩ = some (.slice A0 l0.length c0) := (blk_cell BX.out 0).trans rfl
 have hx1 : (w.alloc (.cells #[.slice A0 l0.length c0, .slice A1 l1.length c1, .int .i64 l2, .slice A3 l3.length c3, .slice A4 l4.length c4, .slice A5 l5.length c5] 34)).cell? ⟨w.heap.size, 1, none⟩ = some (.slice A1 l1.length c1) := (blk_cell BX.out 1).trans rfl
 go_wp2_with fail
 clear hx0 hx1
 ((with_reducible refine (laws_markDisk.calls k P0 _ l0 P1 _ l1 a t1 q0 q1 w0 _ HB.out R0.out R1.out K1.out).mono ?_); rintro e w1 ⟨rfl, G0, G1, hB1, hK1⟩)
 clear HB R0 R1
 have HB := Aside0.mk hB1
 have hK2 := Aside0.mk hK1
 have R0 := Aside0.mk G0
 have R1 := Aside0.mk G1
 replace R3 := Aside0.mk (Kd.Q_kept R3.out hK1 (fun k hk h => h.elim (fun h => X03.out k h hk) (fun h => X13.out k h hk)))
 replace R4 := Aside0.mk (Kd.Q_kept R4.out hK1 (fun k hk h => h.elim (fun h => X04.out k h hk) (fun h => X14.out k h hk)))
 replace R5 := Aside0.mk (Kd.Q_kept R5.out hK1 (fun k hk h => h.elim (fun h => X05.out k h hk) (fun h => X15.out k h hk)))
 replace BX := Aside0.mk (blk_kept BX.out hK1 (fun h => h.elim (fun h => nb0 h) (fun h => nb1 h)))
 replace HK := Aside0.mk (HK.out.then_ hK1 (fun k h => .inl (h.elim (O0.out k) (O1.out k))))
 clear G0 G1 hB1 hK1 hK2
 have hx : w1.cell? ⟨w.heap.size, 3, none⟩ = some (.slice A3 l3.length c3) := (blk_cell BX.out 3).trans rfl
 go_wp2_with fail
 clear hx
 ((with_reducible refine (markIntS_Q k P3 _ l3 t1 t2 q3 w0 _ HB.out R3.out K2.out).mono ?_); rintro e w2 ⟨rfl, G3, hB1, hK1⟩)
 clear HB R3
 have HB := Aside0.mk hB1
 have R3 := Aside0.mk G3
 replace R0 := Aside0.mk (Kd.R_kept (Kd.R_mono (Own.R_tight2 rfl R0.out e0) (fun k hk => hk)) hK1 (fun k hk => fun h => X03.out k hk h))
 replace R1 := Aside0.mk (Kd.R_kept (Kd.R_mono (Own.R_tight2 rfl R1.out e1) (fun k hk => hk)) hK1 (fun k hk => fun h => X13.out k hk h))
 replace R4 := Aside0.mk (Kd.Q_kept R4.out hK1 (fun k hk => fun h => X34.out k h hk))
 replace R5 := Aside0.mk (Kd.Q_kept R5.out hK1 (fun k hk => fun h => X35.out k h hk))
 replace BX := Aside0.mk (blk_kept BX.out hK1 nb3)
 replace HK := Aside0.mk (HK.out.then_ hK1 (fun k h => .inl (O3.out k h)))
 clear G3 hB1 hK1
 have hx : w2.cell? ⟨w.heap.size, 4, none⟩ = some (.slice A4 l4.length c4) := (blk_cell BX.out 4).trans rfl
 go_wp2_with fail
 clear hx
 ((with_reducible refine (markIntS_Q k P4 _ l4 t2 t3 q4 w0 _ HB.out R4.out K3.out).mono ?_); rintro e w3 ⟨rfl, G4, hB1, hK1⟩)
 clear HB R4
 have HB := Aside0.mk hB1
 have R4 := Aside0.mk G4
 replace R0 := Aside0.mk (Kd.R_kept (Kd.R_mono (Own.R_tight2 rfl R0.out e0) (fun k hk => hk)) hK1 (fun k hk => fun h => X04.out k hk h))
 replace R1 := Aside0.mk (Kd.R_kept (Kd.R_mono (Own.R_tight2 rfl R1.out e1) (fun k hk => hk)) hK1 (fun k hk => fun h => X14.out k hk h))
 replace R3 := Aside0.mk (Kd.Q_kept (Own.Q_tight2 rfl R3.out e3) hK1 (fun k hk => fun h => X34.out k hk h))
 replace R5 := Aside0.mk (Kd.Q_kept R5.out hK1 (fun k hk => fun h => X45.out k h hk))
 replace BX := Aside0.mk (blk_kept BX.out hK1 nb4)
 replace HK := Aside0.mk (HK.out.then_ hK1 (fun k h => .inl (O4.out k h)))
 clear G4 hB1 hK1
 have hx : w3.cell? ⟨w.heap.size, 5, none⟩ = some (.slice A5 l5.length c5) := (blk_cell BX.out 5).trans rfl
 go_wp2_with fail
 clear hx
 ((with_reducible refine (markIntS_Q k P5 _ l5 t3 r q5 w0 _ HB.out R5.out K4.out).mono ?_); rintro e w4 ⟨rfl, G5, hB1, hK1⟩)
 clear HB R5
 have HB := Aside0.mk hB1
 have R5 := Aside0.mk G5
 replace R0 := Aside0.mk (Kd.R_kept (Kd.R_mono (Own.R_tight2 rfl R0.out e0) (fun k hk => hk)) hK1 (fun k hk => fun h => X05.out k hk h))
 replace R1 := Aside0.mk (Kd.R_kept (Kd.R_mono (Own.R_tight2 rfl R1.out e1) (fun k hk => hk)) hK1 (fun k hk => fun h => X15.out k hk h))
 replace R3 := Aside0.mk (Kd.Q_kept (Own.Q_tight2 rfl R3.out e3) hK1 (fun k hk => fun h => X35.out k hk h))
 replace R4 := Aside0.mk (Kd.Q_kept (Own.Q_tight2 rfl R4.out e4) hK1 (fun k hk => fun h => X45.out k hk h))
 replace BX := Aside0.mk (blk_kept BX.out hK1 nb5)
 replace HK := Aside0.mk (HK.out.then_ hK1 (fun k h => .inl (O5.out k h)))
 clear G5 hB1 hK1
 go_wp2
 go_ret
 refine ⟨rfl, ?_, HB.out, HK.out⟩
 exact kWork_mkM (Own.R_tight2 rfl R0.out e0) (Own.R_tight2 rfl R1.out e1) (Own.Q_tight2 rfl R3.out e3) (Own.Q_tight2 rfl R4.out e4) (Own.Q_tight2 rfl R5.out e5) O0.out O1.out O3.out O4.out O5.out X01.out X03.out X04.out X05.out X13.out X14.out X15.out X34.out X35.out X45.out
section
variable {W : World} {g t o : Nat} {cs pre mid post new : List Value}
theorem part_at (h : W.heap[g]? = some (.cells cs.toArray t (0, 0))) (e : cs = pre ++ (mid ++ post)) (ho : pre.length = o) : W.rangeAt g o mid := by
 subst e; subst ho
 intro j v hv
 have hj := (List.getElem?_eq_some_iff.1 hv).1
 have : (pre ++ (mid ++ post))[pre.length + j]? = some v := by
  rw [List.getElem?_append_right (Nat.le_add_right _ _), Nat.add_sub_cancel_left, List.getElem?_append_left hj]
  exact hv
 simp [World.cell?, h, this]
theorem part_cell {v : Value} (h : W.heap[g]? = some (.cells cs.toArray t (0, 0))) (e : cs = pre ++ ([v] ++ post)) (ho : pre.length = o) : W.cell? ⟨g, o, none⟩ = some v := by
 have := part_at h e ho 0 v rfl
 simpa using this
theorem part_there (h : W.heap[g]? = some (.cells cs.toArray t (0, 0))) (e : cs = pre ++ (mid ++ post)) (ho : pre.length = o) : W.there g o mid.length := by
 intro j hj
 refine ⟨?_, blk_frozen h _⟩
 rw [part_at h e ho j _ (List.getElem?_eq_getElem hj)]
 rfl
theorem part_set : ∀ (new mid pre post : List Value) (W : World), new.length = mid.length → W.heap[g]? = some (.cells (pre ++ (mid ++ post)).toArray t (0, 0)) → (W.setCells g pre.length new).heap[g]? = some (.cells (pre ++ (new ++ post)).toArray t (0, 0))
 | [], [], pre, post, W, _, h => h
 | [], m :: ms, pre, post, W, hl, h => by simp at hl
 | n :: ns, [], pre, post, W, hl, h => by simp at hl
 | n :: ns, m :: ms, pre, post, W, hl, h => by
  have h1 : (W.setCell ⟨g, pre.length, none⟩ n).heap[g]? = some (.cells ((pre ++ [n]) ++ (ms ++ post)).toArray t (0, 0)) :=
   blk_put (cs' := ((pre ++ [n]) ++ (ms ++ post)).toArray) h pre.length n (by simp)
  have ih := part_set ns ms (pre ++ [n]) post _ (by simpa using hl) h1
  show ((W.setCell ⟨g, pre.length, none⟩ n).setCells g (pre.length + 1) ns).heap[g]? = _
  rw [List.length_append, List.length_singleton] at ih
  rw [ih]
  simp
theorem setCells_below {w : World} (hg : w.heap.size ≤ g) : ∀ (vs : List Value) (W : World) (i : Nat), Below w.heap.size w W → Below w.heap.size w (W.setCells g i vs)
 | [], W, i, h => h
 | u :: vs, W, i, h => setCells_below hg vs _ _ (below_set h hg)
theorem setCells_kept : ∀ (vs : List Value) (W : World) (i : Nat), Kept W (W.setCells g i vs) (fun k => k = g)
 | [], W, i => Kept.refl W _
 | u :: vs, W, i => (Kept.setCell (Kept.refl W (fun k => k = g)) (p := ⟨g, i, none⟩) (.inl rfl) u).then_ (setCells_kept vs _ _) (fun k h => .inl h)
end
def kTxn : Kd (S53 × (List ByteArray × List S135 × Int × List Int × List Int × List Int) × Int) := Own.apair k53 (Own.apair kWork (Kd.int .i64))
theorem markMeta_o (k : Nat) (x : S53) (a r : Int) (fr : List S122) (ok : Nat → Prop) {cs : List Value} (w0 w : World) (hB : Below w0.heap.size w0 w) (hk : ∀ k, ok k → k < w.heap.size) (h : k53.M w w0.heap.size ok x cs) (hf : markF.l0 k x.f3 a 0 = some (r, fr)) :
  Calls Try.prog 44 #[.agg cs.toArray, .int .i64 a] w fun e w' => e = .returned (.int .i64 r) ∧ k53.M w' w0.heap.size ok (⟨x.f0, x.f1, x.f2, fr⟩ : S53) cs ∧ Below w0.heap.size w0 w' ∧ Kept w w' ok := by
 obtain ⟨v3, rfl, R⟩ := k53_openM h
 clear h
 obtain ⟨A3, c3, rfl⟩ := Kd.S_slice R
 have K1 := Aside0.mk hf
 have hn : ¬ ok w.heap.size := fun h => Nat.lt_irrefl _ (hk _ h)
 have R1 := Aside0.mk (Kd.S_alloc R (.cells #[.int .i64 x.f0, .int .i64 x.f1, .int .i64 x.f2, .slice A3 x.f3.length c3] 53))
 have HB := Aside0.mk (Own.below_more hB (.cells #[.int .i64 x.f0, .int .i64 x.f1, .int .i64 x.f2, .slice A3 x.f3.length c3] 53))
 have BX := Aside0.mk (blk_new w (.cells #[.int .i64 x.f0, .int .i64 x.f1, .int .i64 x.f2, .slice A3 x.f3.length c3] 53))
 have HK := Aside0.mk (Kept.alloc (Kept.refl w ok) (.cells #[.int .i64 x.f0, .int .i64 x.f1, .int .i64 x.f2, .slice A3 x.f3.length c3] 53))
 clear R hB hf hk
 go_enter Try.func44, Try.ntmps44
 have hx : (w.alloc (.cells #[.int .i64 x.f0, .int .i64 x.f1, .int .i64 x.f2, .slice A3 x.f3.length c3] 53)).cell? ⟨w.heap.size, 3, none⟩ = some (.slice A3 x.f3.length c3) := (blk_cell BX.out 3).trans rfl
 go_wp2_with fail
 clear hx
 ((with_reducible refine (markFreeS_o k ok _ x.f3 a r fr w0 _ HB.out R1.out K1.out).mono ?_); rintro e w1 ⟨rfl, hS, hB1, hK1⟩)
 go_wp2
 go_ret
 have hl := (Kd.S_reads' hS).1
 refine ⟨rfl, ?_, hB1, HK.out.then_ hK1 (fun k h => .inl h)⟩
 have h3 := hS
 rw [hl] at h3
 show k53.M w1 w0.heap.size ok _ [.int .i64 x.f0, .int .i64 x.f1, .int .i64 x.f2, .slice A3 x.f3.length c3]
 rw [hl]
 exact k53_mkM _ _ _ (⟨x.f0, x.f1, x.f2, fr⟩ : S53) h3
structure Put1 (W W' : World) (g : Nat) : Prop where
 kept : Kept W W' (fun k => k = g)
 below : ∀ w : World, w.heap.size ≤ g → Below w.heap.size w W → Below w.heap.size w W'
 size : W'.heap.size = W.heap.size
theorem setCells_size {g : Nat} : ∀ (vs : List Value) (W : World) (i : Nat), (W.setCells g i vs).heap.size = W.heap.size
 | [], W, i => rfl
 | u :: vs, W, i => (setCells_size vs _ _).trans (by simp [World.setCell])
theorem Put1.cells {W : World} {g : Nat} (i : Nat) (vs : List Value) : Put1 W (W.setCells g i vs) g := ⟨setCells_kept vs W i, fun w hg h => setCells_below hg vs W i h, setCells_size vs W i⟩
section
variable {P : Program} {ops : Array Oper} {rest : List Oper} {o : Oper} {a : Act} {Q : Exit → Act → World → Prop} {W : World}
theorem run_loadpart (ty : TypeId) (x : Operand) (ho : o.op = .load ty x) (g off : Nat) (pre mid post : List Value) {cs : List Value} {t : TypeId} (d : TypeDesc) (hx : a.eval x = .pointer (some ⟨g, off, none⟩)) (hg : W.heap[g]? = some (.cells cs.toArray t (0, 0))) (e : cs = pre ++ (mid ++ post)) (hp : pre.length = off)
  (hu : P.underlying ty = some d) (hd : d.isRow = true) (hi : (P.info? ty).map (·.size) = some mid.length) : (execOp a.eval o).run P W = .ok (.value (.agg mid.toArray)) W := by
 unfold execOp
 simp only [ho, hx, Instr.loadAt, Instr.sureAddr, Sem.run_bind, Sem.run_pure, Result.andThen_ok, run_loadVar_mid W g off ty mid d (part_at hg e hp) hu hd hi]
theorem ev_loadpart (hgd : o.guard = none) (ty : TypeId) (x : Operand) (ho : o.op = .load ty x) (g off : Nat) (pre mid post : List Value) {cs : List Value} {t : TypeId} (d : TypeDesc) (hx : a.eval x = .pointer (some ⟨g, off, none⟩)) (hg : W.heap[g]? = some (.cells cs.toArray t (0, 0))) (e : cs = pre ++ (mid ++ post)) (hp : pre.length = off)
  (hu : P.underlying ty = some d) (hd : d.isRow = true) (hi : (P.info? ty).map (·.size) = some mid.length) (h : wpList P ops Q rest (a.put o.dst (.agg mid.toArray)) W) : wpList P ops Q (o :: rest) a W :=
 wpList_load_mid hgd ty x ho g off hx mid d (part_at hg e hp) hu hd hi h
theorem ev_storepart (hgd : o.guard = none) (ty : TypeId) (x y : Operand) (ho : o.op = .store ty x y) (hN : o.dst = none) (g off : Nat) (new pre mid post : List Value) {cs : List Value} {t : TypeId} (hx : a.eval x = .pointer (some ⟨g, off, none⟩)) (hy : a.eval y = .agg new.toArray) (hg : W.heap[g]? = some (.cells cs.toArray t (0, 0))) (e : cs = pre ++ (mid ++ post)) (hp : pre.length = off)
  (hl : new.length = mid.length) (hi : (P.info? ty).map (·.size) = some new.length) (h1 : ∀ v ∈ new, v.oneCell' = true)
  (h : ∀ W', Put1 W W' g → W'.heap[g]? = some (.cells (pre ++ (new ++ post)).toArray t (0, 0)) → wpList P ops Q rest a W') : wpList P ops Q (o :: rest) a W := by
 refine wpList_store_mid hgd ty x y ho g off new.toArray hx hy (by have := part_there hg e hp; rw [List.size_toArray, hl]; exact this) (by rw [List.size_toArray]; exact hi) (Array.all_eq_true_iff_forall_mem.2 (fun v hv => h1 v (by simpa using hv))) ?_
 have hput : a.put o.dst undef = a := by rw [hN]; rfl
 rw [hput]
 refine h _ (Put1.cells off _) ?_
 subst e; subst hp
 exact part_set new mid pre post W hl hg
theorem ev_storecell (hgd : o.guard = none) (ty : TypeId) (x y : Operand) (ho : o.op = .store ty x y) (hN : o.dst = none) (g off : Nat) (v u : Value) (pre post : List Value) {cs : List Value} {t : TypeId} (hx : a.eval x = .pointer (some ⟨g, off, none⟩)) (hy : a.eval y = v) (hg : W.heap[g]? = some (.cells cs.toArray t (0, 0))) (e : cs = pre ++ ([u] ++ post)) (hp : pre.length = off)
  (hi : (P.info? ty).map (·.size) = some 1) (h1 : v.oneCell' = true) (hc : v.cells = #[v])
  (h : ∀ W', Put1 W W' g → W'.heap[g]? = some (.cells (pre ++ ([v] ++ post)).toArray t (0, 0)) → wpList P ops Q rest a W') : wpList P ops Q (o :: rest) a W := by
 refine wpList_plain hgd fun K hK => ?_
 have hth := part_there hg e hp
 have hrun := run_storeCells_cells (P := P) g off [v] 0 W (fun j hj => (hth j hj).1) (fun j hj => (hth j hj).2) (fun q hq => by rw [List.mem_singleton.1 hq]; exact h1)
 have hs : (storeVar ty ⟨g, off, none⟩ v).run P W = .ok () (W.setCells g off [v]) := by
  cases hq : P.info? ty with
  | none => simp [hq] at hi
  | some i =>
   have hs : 1 = i.size := by simp [hq] at hi; omega
   simp only [Nat.add_zero] at hrun
   simp [storeVar, sizeOf, typeInfo, hq, hc, ← hs, hrun]
 unfold Oper.wp execOp
 simp only [ho, hx, hy, Instr.storeAt, Instr.sureAddr, Sem.run_bind, Sem.run_pure, Result.andThen_ok, hs]
 show K (a.put o.dst undef) _
 rw [hN]
 refine hK _ _ (h _ (Put1.cells off _) ?_)
 subst e; subst hp
 exact part_set [v] [u] pre post W rfl hg
end
theorem blk_else {W W' : World} {g h : Nat} {o : Obj} (hb : W.heap[h]? = some o) (p : Put1 W W' g) (hn : h ≠ g) : W'.heap[h]? = some o := blk_kept hb p.kept hn
theorem markTxn_o (k : Nat) (x : S53) (l0 : List ByteArray) (l1 : List S135) (l2 : Int) (l3 l4 l5 : List Int) (n a b t1 t2 t3 r : Int) (fr : List S122) (q0 : List ByteArray) (q1 : List S135) (q3 q4 q5 : List Int) (ok : Nat → Prop) {cs : List Value} (w0 w : World) (hB : Below w0.heap.size w0 w) (hk : ∀ k, ok k → k < w.heap.size) (h : kTxn.M w w0.heap.size ok (x, (l0, l1, l2, l3, l4, l5), n) cs) (hf : markF.l0 k x.f3 a 0 = some (b, fr)) (g1 : laws_markDisk.f k l0 l1 b = some (t1, q0, q1)) (g2 : laws_markIntS.f k l3 t1 = some (t2, q3)) (g3 : laws_markIntS.f k l4 t2 = some (t3, q4)) (g4 : laws_markIntS.f k l5 t3 = some (r, q5)) :
  Calls Try.prog 43 #[.agg cs.toArray, .int .i64 a] w fun e w' => e = .returned (.int .i64 r) ∧ kTxn.M w' w0.heap.size ok ((⟨x.f0, x.f1, x.f2, fr⟩ : S53), (q0, q1, l2, q3, q4, q5), n) cs ∧ Below w0.heap.size w0 w' ∧ Kept w w' ok := by
 obtain ⟨cM, c', okM, okB, rfl, hM, h, a0, b0, x0⟩ := Own.apair_open h
 obtain ⟨cW, cI, okW, okI, rfl, hW, hI, a1, b1, x1⟩ := Own.apair_open h
 obtain ⟨cs, hcs⟩ : ∃ cs, cs = cM ++ (cW ++ cI) := ⟨_, rfl⟩
 rw [← hcs]
 have E0 := Aside0.mk (show cs = [] ++ (cM ++ (cW ++ cI)) from hcs)
 have E1 := Aside0.mk hcs
 have LM := Aside0.mk (show cM.length = 4 from k53.K_len (k53.K_of_M hM))
 have LW := Aside0.mk (show cW.length = 6 from kWork.K_len (kWork.K_of_M hW))
 have hn : ¬ ok w.heap.size := fun h => Nat.lt_irrefl _ (hk _ h)
 have HN := Aside0.mk hn
 have RM := Aside0.mk (Kd.M_below hM (below_alloc (Below.refl _ _) (.cells cs.toArray 56)))
 have RW := Aside0.mk (Kd.M_below hW (below_alloc (Below.refl _ _) (.cells cs.toArray 56)))
 have HB := Aside0.mk (Own.below_more hB (.cells cs.toArray 56))
 have BX := Aside0.mk (blk_new w (.cells cs.toArray 56))
 have HK := Aside0.mk (Kept.alloc (Kept.refl w ok) (.cells cs.toArray 56))
 have OM := Aside0.mk a0
 have OW := Aside0.mk (fun k h => b0 k (a1 k h))
 have XX := Aside0.mk (fun k h1 h2 => x0 k h1 (a1 k h2))
 have KF := Aside0.mk hf
 have K1 := Aside0.mk g1
 have K2 := Aside0.mk g2
 have K3 := Aside0.mk g3
 have K4 := Aside0.mk g4
 have HI := Aside0.mk (show cI = [.int .i64 n] from hI)
 have UM := Aside0.mk (fun (W : World) (hM : k53.M W w0.heap.size okM (⟨x.f0, x.f1, x.f2, fr⟩ : S53) cM) (hW : kWork.M W w0.heap.size okW (q0, q1, l2, q3, q4, q5) cW) => (Own.apair_mk hM (Own.apair_mk (ok := okB) hW (show (Kd.int .i64).M W w0.heap.size (fun _ => False) n cI from hI) a1 (fun _ h => h.elim) (fun _ _ h => h)) a0 b0 x0 : kTxn.M W w0.heap.size ok ((⟨x.f0, x.f1, x.f2, fr⟩ : S53), (q0, q1, l2, q3, q4, q5), n) (cM ++ (cW ++ cI))))
 rw [← hcs] at UM
 have HL := Aside0.mk (show ∀ k, ok k → k < (w.alloc (.cells cs.toArray 56)).heap.size from fun k h => by have := hk k h; simp; omega)
 clear h hM hW hI hB hk hf g1 g2 g3 g4 hn a0 b0 x0 a1 b1 x1 hcs
 go_enter Try.func43, Try.ntmps43
 go_wp2_with (((with_reducible refine gate_dst (N := 6) rfl ?_); refine wpList_load_mid rfl 53 _ rfl w.heap.size 0 rfl cM _ (part_at (pre := []) BX.out E0.out (by rfl)) Try.underlying53 rfl (by rw [LM.out]; kernel_rfl) ?_))
 ((with_reducible refine (markMeta_o k x a b fr okM w0 _ HB.out (fun k h => HL.out k (OM.out k h)) RM.out KF.out).mono ?_); rintro e w1 ⟨rfl, hM, hB1, hK1⟩)
 have n1 := Aside0.mk hB1
 have n2 := Aside0.mk hM
 have n3 := Aside0.mk (Kd.M_kept RW.out hK1 (fun k h h2 => XX.out k h2 h))
 have n4 := Aside0.mk (blk_kept BX.out hK1 (fun h => HN.out (OM.out _ h)))
 have n5 := Aside0.mk (HK.out.then_ hK1 (fun k h => .inl (OM.out k h)))
 have n6 := Aside0.mk (fun k h => Nat.lt_of_lt_of_le (HL.out k h) hK1.1)
 clear HB RM RW BX HK HL hM hB1 hK1
 have HB := n1; have RM := n2; have RW := n3; have BX := n4; have HK := n5; have HL := n6
 clear n1 n2 n3 n4 n5 n6
 go_wp2_with (((with_reducible refine gate_dst (N := 10) rfl ?_); refine wpList_load_mid rfl 34 _ rfl w.heap.size 4 rfl cW _ (part_at (pre := cM) BX.out E1.out (by rw [LM.out])) Try.underlying34 rfl (by rw [LW.out]; kernel_rfl) ?_))
 ((with_reducible refine (markWork_o k l0 l1 l2 l3 l4 l5 q0 q1 q3 q4 q5 b t1 t2 t3 r okW w0 _ HB.out (fun k h => HL.out k (OW.out k h)) RW.out K1.out K2.out K3.out K4.out).mono ?_); rintro e w2 ⟨rfl, hW, hB1, hK1⟩)
 have n2 := Aside0.mk (Kd.M_kept RM.out hK1 (fun k h h2 => XX.out k h h2))
 have n5 := Aside0.mk (HK.out.then_ hK1 (fun k h => .inl (OW.out k h)))
 go_wp2
 go_ret
 exact ⟨rfl, UM.out _ n2.out hW, hB1, n5.out⟩
theorem oresults_c {P : Program} {fn : Func} {p : Tmp} {ty : TypeId} (h : fn.results = #[.cell p ty]) (tmps : Array Value) (w : World) (g : Nat) (t : TypeId) (cs : Array Value) (fr : Nat × Nat) (d : TypeDesc)
  (hp : tmps.getD p undef = .pointer (some ⟨g, 0, none⟩)) (hg : w.heap[g]? = some (.cells cs t fr))
  (hu : P.underlying ty = some d) (hd : (match d with | .struct _ | .array _ _ => true | _ => false) = true) (hi : (P.info? ty).map (·.size) = some cs.size) :
  (results fn tmps).run P w = .ok (.agg cs) w := by
 have hp' : tmps[p]?.getD undef = .pointer (some ⟨g, 0, none⟩) := by simpa using hp
 simp [results, h, hp', asAddr, run_loadVar_row w g t ty cs fr d hg hu hd hi]
def kTxnL : Kd (S69 × (List ByteArray × List S140 × Int × List Int × List Int × List Int) × Int) := Own.apair k69 (Own.apair kWorkL (Kd.int .i64))
def Fr (w w' : World) : Nat → Prop := fun k => w.heap.size ≤ k ∧ k < w'.heap.size
theorem toDisk_o (k : Nat) (l0 : List ByteArray) (l1 : List S140) (q0 : List ByteArray) (q1 : List S135) {cs : List Value} (w : World) (h : kDiskL.K w (l0, l1) cs) (hf : laws_toDisk.f k l0 l1 = some (q0, q1)) :
  Calls Try.prog 24 #[.agg cs.toArray] w fun e w' => ∃ ds : List Value, e = .returned (.agg ds.toArray) ∧ kDisk.M w' w.heap.size (Fr w w') (q0, q1) ds ∧ Below w.heap.size w w' := by
 obtain ⟨A0, c0, A1, c1, rfl, m0, r0, m1, r1⟩ := kDiskL_open h
 refine (laws_toDisk.calls k A0 c0 l0 A1 c1 l1 q0 q1 w r0 m0 r1 m1 hf).mono ?_
 rintro e w' ⟨v0, v1, rfl, R0, R1, hb⟩
 have T0 := Own.R_tightB rfl R0
 have T1 := Own.R_tightB rfl R1
 exact ⟨[v0, v1], rfl, kDisk_mkM T0.1 T1.1 T0.2.1 T1.2.1 (Own.types_ne T0.2.2 T1.2.2 (by decide)), hb⟩
theorem toMeta_o (k : Nat) (x : S69) (y : S53) {cs : List Value} (w : World) (h : k69.K w x cs) (hf : laws_toMeta.f k x.f0 x.f1 x.f2 x.f3 = some (y.f0, y.f1, y.f2, y.f3)) :
  Calls Try.prog 80 #[.agg cs.toArray] w fun e w' => ∃ ds : List Value, e = .returned (.agg ds.toArray) ∧ k53.M w' w.heap.size (Fr w w') y ds ∧ Below w.heap.size w w' := by
 obtain ⟨A3, c3, rfl, m3, r3⟩ := k69_open h
 refine (laws_toMeta.calls k x.f0 x.f1 x.f2 A3 c3 x.f3 y.f0 y.f1 y.f2 y.f3 w r3 m3 hf).mono ?_
 rintro e w' ⟨v3, rfl, R, hb⟩
 exact ⟨[.int .i64 y.f0, .int .i64 y.f1, .int .i64 y.f2, v3], rfl, k53_mkM _ _ _ y (Kd.S_mono (Kd.S_bound R) (fun k hk => ⟨hk.2.1, hk.2.2.1⟩)), hb⟩
theorem putS {α : Type} {d : Kd α} {e base g : Nat} {W W' : World} {ok : Nat → Prop} {v : Value} {xs : List α} (h : Kd.S d e W base ok v xs) (p : Put1 W W' g) (hg : ∀ k, ok k → k ≠ g) : Kd.S d e W' base ok v xs := Kd.S_kept h p.kept hg
section
variable {P : Program} {ops : Array Oper} {rest : List Oper} {o : Oper} {a : Act} {Q : Exit → Act → World → Prop} {W : World}
theorem run_loadcell (ty : TypeId) (x : Operand) (ho : o.op = .load ty x) (g off : Nat) (pre : List Value) (v : Value) (post : List Value) {cs : List Value} {t : TypeId} {d : TypeDesc} (hx : a.eval x = .pointer (some ⟨g, off, none⟩)) (hg : W.heap[g]? = some (.cells cs.toArray t (0, 0))) (e : cs = pre ++ ([v] ++ post)) (hp : pre.length = off)
  (hu : P.underlying ty = some d) (hd : d.isRow = false) : (execOp a.eval o).run P W = .ok (.value v) W := by
 have hc := part_cell hg e hp
 have hagg : (isAgg ty).run P W = .ok false W := by
  unfold isAgg
  rw [Sem.run_bind, run_underlying hu W]
  cases d <;> simp_all
 unfold execOp
 simp [ho, hx, Instr.loadAt, Instr.sureAddr, Sem.run_bind, loadVar, hagg, run_load, hc]
theorem ev_loadcell (hgd : o.guard = none) (ty : TypeId) (x : Operand) (ho : o.op = .load ty x) (g off : Nat) (pre : List Value) (v : Value) (post : List Value) {cs : List Value} {t : TypeId} {d : TypeDesc} (hx : a.eval x = .pointer (some ⟨g, off, none⟩)) (hg : W.heap[g]? = some (.cells cs.toArray t (0, 0))) (e : cs = pre ++ ([v] ++ post)) (hp : pre.length = off)
  (hu : P.underlying ty = some d) (hd : d.isRow = false) (h : wpList P ops Q rest (a.put o.dst v) W) : wpList P ops Q (o :: rest) a W := by
 refine wpList_plain hgd fun K hK => ?_
 unfold Oper.wp
 rw [run_loadcell ty x ho g off pre v post hx hg e hp hu hd]
 exact hK _ _ h
end
end Go.Proofs.Ytonhdiemjgdcnaa.PFnExactGivePage
namespace Go.Proofs.YtonhdiemjgdcnaaW.PrintLast
open Go.Proofs.YtonhdiemjgdcnaaW.PrintWords (Aside0)
inductive Stp where
 | p (i : Nat) | t (i : Nat) | e (i : Nat) | l (i : Nat)
section
variable {P : Program} {ops : Array Oper} {Q : Exit → Act → World → Prop} {S : World → Prop} {ds : List Nat} {T : Bool × List (List Nat × List Nat)} {B : List Nat} {N : Option Tmp} {o : Oper} {v : Value} {a : Act} {w : World} {i : Nat} {r : List Stp}
def walkB (T : Bool × List (List Nat × List Nat)) (B ds : List Nat) : Bool → List Bool → List Stp → Bool
 | _, l, [] => readyT T.2 l == []
 | k, l, .p i :: r => (T.1 && freeT T.2 l i && readyAt T.2 l i) && walkB T B ds k (l.set i true) r
 | k, l, .t i :: r => (k && takeW T B ds l (l.set i true) i) && walkB T B ds k (l.set i true) r
 | _, l, .e i :: r => (readyT T.2 l == [i] && !ds.contains i) && walkB T B ds true (l.set i true) r
 | _, l, .l i :: r => (readyT T.2 l == [i] && ds.contains i) && walkB T B ds false (l.set i true) r
def regB (ops : Array Oper) (T : Bool × List (List Nat × List Nat)) (B ds : List Nat) (r : List Stp) : Bool := rtab .any ops == T && waitsOk T.2 B && r.length == ops.size && walkB T B ds true (List.replicate ops.size false) r
theorem put_with (a : Act) (d : Option Tmp) (v : Value) : a.put d v = { a with tmps := (a.put d v).tmps } := by cases d <;> rfl
def wpSeq (P : Program) (ops : Array Oper) (Q : Exit → Act → World → Prop) (S : World → Prop) : List Stp → Act → World → Prop
 | [], a, w => Q .normal a w
 | .p i :: r, a, w => ∃ o v, ops[i]? = some o ∧ Yields P ops o v a ∧ wpSeq P ops Q S r (a.put o.dst v) w
 | .t i :: r, a, w => ∃ o v, ops[i]? = some o ∧ YieldsIf P ops S o v a ∧ wpSeq P ops Q S r (a.put o.dst v) w
 | .e i :: r, a, w => ∃ o, ops[i]? = some o ∧ ∀ K : Act → World → Prop, Shut (∀ a' w', S w' → (S w' → wpSeq P ops Q S r a' w') → K a' w') → if Region.wanted o (yielded ops a.tmps) = true then Oper.wp P o a w K Q else K (a.put o.dst undef) w
 | .l i :: r, a, w => ∃ o, ops[i]? = some o ∧ ∀ K : Act → World → Prop, Shut (∀ a' w', wpSeq P ops Q S r a' w' → K a' w') → if Region.wanted o (yielded ops a.tmps) = true then Oper.wp P o a w K Q else K (a.put o.dst undef) w
theorem wpSeq_sound (hT : rtab .any ops = T) (hB : waitsOk T.2 B = true) (hQ : ∀ c (a : Act) ts w, Q (.panic c) { a with tmps := ts } w → Q (.panic c) a w) : ∀ (r : List Stp) (k : Bool) (l : List Bool) (a : Act) (w : World),
  walkB T B ds k l r = true → (k = true → S w) → wpSeq P ops Q S r a w → wpAnyLast P .any ops Q S ds r.length l.toArray a w
 | [], k, l, a, w, hc, hS, h => ⟨by subst hT; rw [ready_eq]; simpa [walkB] using hc, h⟩
 | .p i :: r, k, l, a, w, hc, hS, h => by
  simp only [walkB, Bool.and_eq_true] at hc
  obtain ⟨⟨⟨h1, h2⟩, h3⟩, h4⟩ := hc
  obtain ⟨o, v, ho, hy, hr⟩ := h
  refine pure_ (l.set i true).toArray ho rfl (any_of hT ?_) (fun c a w hh => hQ c a (a.put o.dst v).tmps w (by rw [← put_with]; exact hh)) hy rfl (wpSeq_sound hT hB hQ r k _ _ w h4 hS hr)
  simp only [anyT, Bool.and_eq_true]
  exact ⟨⟨⟨h1, h2⟩, h3⟩, by simp⟩
 | .t i :: r, k, l, a, w, hc, hS, h => by
  simp only [walkB, Bool.and_eq_true] at hc
  obtain ⟨⟨h1, h2⟩, h4⟩ := hc
  obtain ⟨o, v, ho, hy, hr⟩ := h
  exact take_ (l.set i true).toArray ho rfl (take_ofW hT hB h2) (fun c a w hh => hQ c a (a.put o.dst v).tmps w (by rw [← put_with]; exact hh)) hy (hS h1) rfl (wpSeq_sound hT hB hQ r k _ _ w h4 hS hr)
 | .e i :: r, k, l, a, w, hc, hS, h => by
  simp only [walkB, Bool.and_eq_true] at hc
  obtain ⟨⟨h1, h2⟩, h4⟩ := hc
  obtain ⟨o, ho, hr⟩ := h
  refine one_ (l.set i true).toArray ho rfl (one_of hT ?_) (by simpa using h2) (fun K hK => hr K (fun a' w' hs hw => hK.out a' w' hs fun hs => wpSeq_sound hT hB hQ r true _ a' w' h4 (fun _ => hs) (hw hs)))
  simp only [Bool.and_eq_true]
  exact ⟨h1, by simp⟩
 | .l i :: r, k, l, a, w, hc, hS, h => by
  simp only [walkB, Bool.and_eq_true] at hc
  obtain ⟨⟨h1, h2⟩, h4⟩ := hc
  obtain ⟨o, ho, hr⟩ := h
  refine last_ (l.set i true).toArray ho rfl (one_of hT ?_) (by simpa using h2) (fun K hK => hr K (fun a' w' hw => hK.out a' w' (wpSeq_sound hT hB hQ r false _ a' w' h4 (fun h => by cases h) hw)))
  simp only [Bool.and_eq_true]
  exact ⟨h1, by simp⟩
theorem seq_start {id : Nat} (hc : regB ops T B ds r = true) (hm : P.follows .mixedOrders = true) (hQ : ∀ c (a : Act) ts w, Q (.panic c) { a with tmps := ts } w → Q (.panic c) a w) (hS : S w.drew) (h : S w.drew → wpSeq P ops Q S r a w.drew) : (Code.region id ops true).wp P Q a w := by
 simp only [regB, Bool.and_eq_true, beq_iff_eq] at hc
 obtain ⟨⟨⟨h1, h2⟩, h3⟩, h4⟩ := hc
 refine start_ (ds := ds) (List.replicate ops.size false).toArray hm rfl (by simp) hS (fun hs => ?_)
 rw [← h3]
 exact wpSeq_sound h1 h2 hQ r true _ a _ (by rw [h3]; exact h4) (fun _ => hs) (h hs)
theorem seq_p (ho : ops[i]? = some o) (hN : o.dst = N) (hy : Yields P ops o v a) {a' : Act} (ha : a.put N v = a') (h : wpSeq P ops Q S r a' w) : wpSeq P ops Q S (.p i :: r) a w := by
 subst hN; subst ha; exact ⟨o, v, ho, hy, h⟩
theorem seq_t (ho : ops[i]? = some o) (hN : o.dst = N) (hy : YieldsIf P ops S o v a) {a' : Act} (ha : a.put N v = a') (h : wpSeq P ops Q S r a' w) : wpSeq P ops Q S (.t i :: r) a w := by
 subst hN; subst ha; exact ⟨o, v, ho, hy, h⟩
theorem seq_e (ho : ops[i]? = some o) (hN : o.dst = N) (h : ∀ K : Act → World → Prop, Shut (∀ a' w', S w' → (S w' → wpSeq P ops Q S r a' w') → K a' w') → if Region.wanted o (yielded ops a.tmps) = true then Oper.wp P o a w K Q else K (a.put N undef) w) : wpSeq P ops Q S (.e i :: r) a w := by
 subst hN; exact ⟨o, ho, h⟩
theorem seq_l (ho : ops[i]? = some o) (hN : o.dst = N) (h : ∀ K : Act → World → Prop, Shut (∀ a' w', wpSeq P ops Q S r a' w' → K a' w') → if Region.wanted o (yielded ops a.tmps) = true then Oper.wp P o a w K Q else K (a.put N undef) w) : wpSeq P ops Q S (.l i :: r) a w := by
 subst hN; exact ⟨o, ho, h⟩
theorem seq_done (h : Q .normal a w) : wpSeq P ops Q S [] a w := h
theorem seq_norm {a' : Act} (ha : a = a') (h : wpSeq P ops Q S r a' w) : wpSeq P ops Q S r a w := by subst ha; exact h
theorem seq_call {f : FuncId} {fn : Func} {aa : Array Operand} {ts : Array TypeId} (ho : ops[i]? = some o) (hN : o.dst = N) (hf : P.funcs[f]? = some fn) (hname : (fn.name == "runtime.NumGoroutine") = false) (hb : fn.body.isSome = true) (args : Array Value)
  (hw : Region.wanted o (yielded ops a.tmps) = true) (hop : o.op = .call { callee := .value (.func f), args := aa, argTypes := ts }) (hargs : aa.map a.eval = args)
  (h : Calls P f args w fun e w' => ∃ v, e = .returned v ∧ S w' ∧ (S w' → wpSeq P ops Q S r (a.put N v) w')) : wpSeq P ops Q S (.e i :: r) a w :=
 seq_e ho hN fun K hK => goes_ hf hname hb args hw hN hop hargs (h.mono fun e w' ⟨v, he, hs, hk⟩ => ⟨v, he, hK.out _ _ hs hk⟩)
end
end Go.Proofs.YtonhdiemjgdcnaaW.PrintLast
namespace Go.Proofs.Ytonhdiemjgdcnaa.PFnExactGivePage
open Go.RowKit Go.Proofs.YtonhdiemjgdcnaaW.PrintWords Go.Proofs.YtonhdiemjgdcnaaW.PrintLast Go.Proofs.YtonhdiemjgdcnaaW.PrintMore
attribute [local go_sem] max2_int min2_int max_two min_two max_three min_three max_four min_four
section
variable {P : Program} {ops : Array Oper} {Q : Exit → Act → World → Prop} {S : World → Prop} {N : Option Tmp} {o : Oper} {a : Act} {w : World} {i : Nat} {r : List Stp}
theorem seq_storecell (ho : ops[i]? = some o) (hN : o.dst = none) (hw : Region.wanted o (yielded ops a.tmps) = true) (ty : TypeId) (x y : Operand) (hop : o.op = .store ty x y) (g off : Nat) (v u : Value) (pre post : List Value) {cs : List Value} {t : TypeId} (hx : a.eval x = .pointer (some ⟨g, off, none⟩)) (hy : a.eval y = v) (hg : w.heap[g]? = some (.cells cs.toArray t (0, 0))) (e : cs = pre ++ ([u] ++ post)) (hp : pre.length = off)
  (hi : (P.info? ty).map (·.size) = some 1) (h1 : v.oneCell' = true) (hc : v.cells = #[v])
  (h : ∀ W', Put1 w W' g → W'.heap[g]? = some (.cells (pre ++ ([v] ++ post)).toArray t (0, 0)) → wpSeq P ops Q S r a W') : wpSeq P ops Q S (.l i :: r) a w := by
 refine seq_l ho hN (fun K hK => ?_)
 rw [if_pos hw]
 have hth := part_there hg e hp
 have hrun := run_storeCells_cells (P := P) g off [v] 0 w (fun j hj => (hth j hj).1) (fun j hj => (hth j hj).2) (fun q hq => by rw [List.mem_singleton.1 hq]; exact h1)
 have hs : (storeVar ty ⟨g, off, none⟩ v).run P w = .ok () (w.setCells g off [v]) := by
  cases hq : P.info? ty with
  | none => simp [hq] at hi
  | some i =>
   have hs : 1 = i.size := by simp [hq] at hi; omega
   simp only [Nat.add_zero] at hrun
   simp [storeVar, sizeOf, typeInfo, hq, hc, ← hs, hrun]
 unfold Oper.wp execOp
 simp only [hop, hx, hy, Instr.storeAt, Instr.sureAddr, Sem.run_bind, Sem.run_pure, Result.andThen_ok, hs]
 show K (a.put o.dst undef) _
 rw [show a.put o.dst undef = a by rw [hN]; rfl]
 refine hK.out _ _ (h _ (Put1.cells off _) ?_)
 subst e; subst hp
 exact part_set [v] [u] pre post w rfl hg
end
end Go.Proofs.Ytonhdiemjgdcnaa.PFnExactGivePage
