import Derived.Test.YtonhdiemjgdcnaaRD9
set_option maxHeartbeats 64000000
set_option maxRecDepth 100000
set_option linter.unusedVariables false
set_option linter.unusedSimpArgs false
namespace Go.Proofs.Ytonhdiemjgdcnaa.PFnExactGivePage
open Go.RowKit Go.Proofs.YtonhdiemjgdcnaaW.PrintWords Go.Proofs.YtonhdiemjgdcnaaW.PrintLast Go.Proofs.YtonhdiemjgdcnaaW.PrintMore
attribute [local go_sem] max2_int min2_int max_two min_two max_three min_three max_four min_four
def laws_szFree.f (a0_0 : Int) (l0_1 : List Int) (a1 : Int) : Option (Int) := (laws_szIntS.f l0_1 a1).bind fun t215 => (if t215 < 0 then (some (-1)) else (some t215))
theorem laws_szFree.calls (a0_0 : Int) (A0_1 : Option Addr) (c0_1 : Nat) (l0_1 : List Int) (a1 : Int) (r : Int) (w : World) (hr0_1 : Kd.C (Kd.int .i64) w A0_1 l0_1.length l0_1) (hc0_1 : l0_1.length ≤ c0_1) (h : laws_szFree.f a0_0 l0_1 a1 = some r) :
  Calls Try.prog 158 #[.agg #[.int .i64 a0_0, .slice A0_1 l0_1.length c0_1], .int .i64 a1] w fun e w' => e = .returned (.int .i64 r) ∧ Below w.heap.size w w' := by
 have hu183 := Try.underlying183
 have HR0_1 := Aside0.mk hr0_1
 have HC0_1 := Aside0.mk hc0_1
 clear hr0_1 hc0_1
 have HB := Aside0.mk (Below.refl w.heap.size w)
 have H : ((laws_szIntS.f l0_1 a1).bind fun t215 => (if t215 < 0 then (some (-1)) else (some t215))) = some r := h
 clear h
 replace H := Option.bind_eq_some_iff.mp H
 obtain ⟨t215, A30, H⟩ := H
 replace H : (if t215 < 0 then (some (-1)) else (some t215)) = some r := H
 have A3 := Aside0.mk A30
 clear A30
 by_cases c4 : t215 < 0
 ·rw [if_pos c4] at H
  have c4b0 : decide (t215 < 0) = true := decide_eq_true c4
  clear c4
  obtain rfl := Option.some.inj H
  go_enter Try.func158, Try.ntmps158
  go_wp2_with (first | ((with_reducible refine gate_dst (N := 2) rfl ?_); refine box_event ?hg (N := 2) ?hd (cs := #[.int .i64 a0_0, .slice A0_1 l0_1.length c0_1]) (t := 183) ?hr ?_; (case hd => rfl); (case hg => rfl); (case hr => first | (go_simp; done) | (go_simp; rfl)); intro gb214 hg w5 hbox hb; have n0_ := Aside0.mk (below_step (by repeat (first | (with_reducible first | exact HB.out | apply below_alloc | apply pw_below_drewN | apply below_drew1) | exact HB.out)) hb); have n1_ := Aside0.mk (hbox); have n2_ := Aside0.mk ((by rw [hg]; exact (below_size (by repeat (first | (with_reducible first | exact HB.out | apply below_alloc | apply pw_below_drewN | apply below_drew1) | exact HB.out))) : w.heap.size ≤ gb214)); have n3_ := Aside0.mk ((by rw [hg]; exact (below_size (by repeat (first | (with_reducible first | exact HB.out | apply below_alloc | apply pw_below_drewN | apply below_drew1) | exact HB.out))) : w.heap.size ≤ gb214)); clear HB; have HB := n0_; have BK214 := n1_; have GW214 := n2_; have GE214 := n3_; clear n0_ n1_ n2_ n3_; clear hb hbox hg; have hcz6_0 : w5.cell? ⟨gb214, 0, none⟩ = some (.int .i64 a0_0) := (blk_cell BK214.out 0).trans rfl; have hcz6_1 : w5.cell? ⟨gb214, 1, none⟩ = some (.slice A0_1 l0_1.length c0_1) := (blk_cell BK214.out 1).trans rfl; have hfz6_0 := blk_frozen BK214.out 0; have hfz6_1 := blk_frozen BK214.out 1) | ((with_reducible refine gate_callee (f := 46) rfl ?_); refine goesL_ (some 8) rfl rfl Try.func46 (by kernel_rfl) rfl #[.slice A0_1 l0_1.length c0_1, .int .i64 a1] rfl (by (try simp only [List.map_toArray, List.map_cons, List.map_nil]); first | done | rfl | (simp only [List.length_drop, List.length_take]; rfl)) ?_; (with_reducible refine (laws_szIntS.calls _ _ l0_1 a1 t215 _ ?side1 ?side2 A3.out).mono ?_); (case side1 => repeat (first | exact (Kd.C_below HR0_1.out HB.out) | (with_reducible refine Kd.C_alloc ?_ _) | (with_reducible refine Kd.C_drewN ?_ _) | (with_reducible refine Kd.C_drew ?_))); (case side2 => exact HC0_1.out); rintro e w' ⟨rfl, ⟨nd, rfl⟩⟩; refine ⟨_, rfl, ?_⟩))
  go_ret
  exact ⟨by first | rfl | (simp [errW_none, errW_some] <;> rfl) | (simp [*, errW_none, errW_some] <;> rfl), by repeat (first | (with_reducible first | exact HB.out | apply below_alloc | apply pw_below_drewN | apply below_drew1 | refine below_set ?_ GE214.out) | exact HB.out)⟩
 ·rw [if_neg c4] at H
  have c4b0 : decide (t215 < 0) = false := decide_eq_false c4
  clear c4
  obtain rfl := Option.some.inj H
  go_enter Try.func158, Try.ntmps158
  go_wp2_with (first | ((with_reducible refine gate_dst (N := 2) rfl ?_); refine box_event ?hg (N := 2) ?hd (cs := #[.int .i64 a0_0, .slice A0_1 l0_1.length c0_1]) (t := 183) ?hr ?_; (case hd => rfl); (case hg => rfl); (case hr => first | (go_simp; done) | (go_simp; rfl)); intro gb214 hg w7 hbox hb; have n0_ := Aside0.mk (below_step (by repeat (first | (with_reducible first | exact HB.out | apply below_alloc | apply pw_below_drewN | apply below_drew1) | exact HB.out)) hb); have n1_ := Aside0.mk (hbox); have n2_ := Aside0.mk ((by rw [hg]; exact (below_size (by repeat (first | (with_reducible first | exact HB.out | apply below_alloc | apply pw_below_drewN | apply below_drew1) | exact HB.out))) : w.heap.size ≤ gb214)); have n3_ := Aside0.mk ((by rw [hg]; exact (below_size (by repeat (first | (with_reducible first | exact HB.out | apply below_alloc | apply pw_below_drewN | apply below_drew1) | exact HB.out))) : w.heap.size ≤ gb214)); clear HB; have HB := n0_; have BK214 := n1_; have GW214 := n2_; have GE214 := n3_; clear n0_ n1_ n2_ n3_; clear hb hbox hg; have hcz8_0 : w7.cell? ⟨gb214, 0, none⟩ = some (.int .i64 a0_0) := (blk_cell BK214.out 0).trans rfl; have hcz8_1 : w7.cell? ⟨gb214, 1, none⟩ = some (.slice A0_1 l0_1.length c0_1) := (blk_cell BK214.out 1).trans rfl; have hfz8_0 := blk_frozen BK214.out 0; have hfz8_1 := blk_frozen BK214.out 1) | ((with_reducible refine gate_callee (f := 46) rfl ?_); refine goesL_ (some 8) rfl rfl Try.func46 (by kernel_rfl) rfl #[.slice A0_1 l0_1.length c0_1, .int .i64 a1] rfl (by (try simp only [List.map_toArray, List.map_cons, List.map_nil]); first | done | rfl | (simp only [List.length_drop, List.length_take]; rfl)) ?_; (with_reducible refine (laws_szIntS.calls _ _ l0_1 a1 t215 _ ?side1 ?side2 A3.out).mono ?_); (case side1 => repeat (first | exact (Kd.C_below HR0_1.out HB.out) | (with_reducible refine Kd.C_alloc ?_ _) | (with_reducible refine Kd.C_drewN ?_ _) | (with_reducible refine Kd.C_drew ?_))); (case side2 => exact HC0_1.out); rintro e w' ⟨rfl, ⟨nd, rfl⟩⟩; refine ⟨_, rfl, ?_⟩))
  go_ret
  exact ⟨by first | rfl | (simp [errW_none, errW_some] <;> rfl) | (simp [*, errW_none, errW_some] <;> rfl), by repeat (first | (with_reducible first | exact HB.out | apply below_alloc | apply pw_below_drewN | apply below_drew1 | refine below_set ?_ GE214.out) | exact HB.out)⟩
def laws_szFreeS.l0 : Nat → List (S183) → Int → Int → Option (Int)
 | 0, _, _, _ => none
 | k + 1, x0, x1, x5 => if x5 < (x0.length : Int) then (if 0 ≤ x5 then ((laws_szFree.f ((rd_T183 x0 x5).f0) ((rd_T183 x0 x5).f1) x1).bind fun t217 => (if t217 < 0 then (some (-1)) else (laws_szFreeS.l0 k x0 t217 (wrap64 (x5 + 1))))) else (none)) else (some x1)
def laws_szFreeS.f (k : Nat) (l0 : List (S183)) (a1 : Int) : Option (Int) := if (wrap64 (a1 - (l0.length : Int))) < 0 then (some (-1)) else (laws_szFreeS.l0 k l0 (wrap64 (a1 - (l0.length : Int))) 0)
theorem laws_szFreeS.mono_l : ∀ k, (∀ y0 y1 y2, LeO (laws_szFreeS.l0 k y0 y1 y2) (laws_szFreeS.l0 (k + 1) y0 y1 y2))
 | 0 => fun _ _ _ r h => by simp [laws_szFreeS.l0] at h
 | k + 1 => by
  have ih0 := laws_szFreeS.mono_l k
  ·intro y0 y1 y2
   unfold laws_szFreeS.l0
   repeat' first
   | (with_reducible exact ih0 _ _ _)
   | (with_reducible exact LeO.refl _)
   | (with_reducible exact LeO.none _)
   | (with_reducible refine LeO.ite ?_ ?_)
   | (with_reducible refine LeO.bind ?_ (fun _ => ?_))
   | exact ih0 _ _ _
theorem laws_szFreeS.mono : ∀ a0 a1 k, LeO (laws_szFreeS.f k a0 a1) (laws_szFreeS.f (k + 1) a0 a1) := by
 intro a0 a1 k
 have ih0 := laws_szFreeS.mono_l k
 unfold laws_szFreeS.f
 repeat' first
   | (with_reducible exact ih0 _ _ _)
   | (with_reducible exact LeO.refl _)
   | (with_reducible exact LeO.none _)
   | (with_reducible refine LeO.ite ?_ ?_)
   | (with_reducible refine LeO.bind ?_ (fun _ => ?_))
   | exact ih0 _ _ _
theorem laws_szFreeS.calls (k : Nat) (A0 : Option Addr) (c0 : Nat) (l0 : List (S183)) (a1 : Int) (r : Int) (w : World) (hr0 : Kd.C k183 w A0 l0.length l0) (hc0 : l0.length ≤ c0) (h : laws_szFreeS.f k l0 a1 = some r) :
  Calls Try.prog 130 #[.slice A0 l0.length c0, .int .i64 a1] w fun e w' => e = .returned (.int .i64 r) ∧ Below w.heap.size w w' := by
 have hu183 := Try.underlying183
 have HR0 := Aside0.mk hr0
 have HC0 := Aside0.mk hc0
 clear hr0 hc0
 have HB := Aside0.mk (Below.refl w.heap.size w)
 have H : (if (wrap64 (a1 - (l0.length : Int))) < 0 then (some (-1)) else (laws_szFreeS.l0 k l0 (wrap64 (a1 - (l0.length : Int))) 0)) = some r := h
 clear h
 by_cases c3 : (wrap64 (a1 - (l0.length : Int))) < 0
 ·rw [if_pos c3] at H
  have c3b0 : decide ((wrap64 (a1 - (l0.length : Int))) < 0) = true := decide_eq_true c3
  clear c3
  obtain rfl := Option.some.inj H
  go_enter Try.func130, Try.ntmps130
  go_wp2
  go_ret
  exact ⟨by first | rfl | (simp [errW_none, errW_some] <;> rfl) | (simp [*, errW_none, errW_some] <;> rfl), by repeat (first | (with_reducible first | exact HB.out | apply below_alloc | apply pw_below_drewN | apply below_drew1) | exact HB.out)⟩
 ·rw [if_neg c3] at H
  have c3b0 : decide ((wrap64 (a1 - (l0.length : Int))) < 0) = false := decide_eq_false c3
  clear c3
  have H' := Aside0.mk H
  clear H
  go_enter Try.func130, Try.ntmps130
  go_wp2
  go_loopg [1, 5] k (fun kq v1 v5 w' => ∃ (x1_1 : Int) (x5_1 : Int), v1 = .int .i64 x1_1 ∧ v5 = .int .i64 x5_1 ∧ Aside0 (laws_szFreeS.l0 kq l0 x1_1 x5_1 = some r) ∧ Aside0 (kq ≤ k) ∧ Aside0 (Below w.heap.size w w'))
  case atStart => exact ⟨(wrap64 (a1 - (l0.length : Int))), (0), (by first | rfl | (simp; done) | (simp [*]; done)), (by first | rfl | (simp; done) | (simp [*]; done)), H', ⟨Nat.le_refl _⟩, ⟨by repeat (first | (with_reducible first | exact HB.out | apply below_alloc | apply pw_below_drewN | apply below_drew1) | exact HB.out)⟩⟩
  case round =>
   clear H'
   try clear c3
   try clear c3b0
   obtain ⟨x1_1, x5_1, rfl, rfl, HA, HK1, HB⟩ := hrel
   cases gk with
   | zero => exact absurd HA.out (by simp [laws_szFreeS.l0])
   | succ k1 =>
    have H := HA.out
    clear HA
    simp only [laws_szFreeS.l0] at H
    by_cases c4 : x5_1 < (l0.length : Int)
    ·rw [if_pos c4] at H
     have c4b0 : decide (x5_1 < (l0.length : Int)) = true := decide_eq_true c4
     clear c4
     by_cases c5 : 0 ≤ x5_1
     ·rw [if_pos c5] at H
      have c5b0 : decide (0 ≤ x5_1) = true := decide_eq_true c5
      clear c5
      replace H := Option.bind_eq_some_iff.mp H
      obtain ⟨t217, A60, H⟩ := H
      replace H : (if t217 < 0 then (some (-1)) else (laws_szFreeS.l0 k1 l0 t217 (wrap64 (x5_1 + 1)))) = some r := H
      have A6 := Aside0.mk A60
      clear A60
      by_cases c7 : t217 < 0
      ·rw [if_pos c7] at H
       have c7b0 : decide (t217 < 0) = true := decide_eq_true c7
       clear c7
       obtain rfl := Option.some.inj H
       have p216 : 0 ≤ (x5_1 : Int) := of_decide_eq_true (by with_reducible assumption)
       have q216 : x5_1 < (l0.length : Int) := of_decide_eq_true (by with_reducible assumption)
       obtain ⟨ad216, A216_1, c216_1, e216, hx216_0, hx216_1, hl216_1, hi216_1⟩ := at_T183 HR0.out x5_1 p216 q216
       cases e216
       replace hx216_0 := (HB.out.cell (World.block_lt_of_cell? w _ hx216_0)).trans hx216_0
       replace hx216_1 := (HB.out.cell (World.block_lt_of_cell? w _ hx216_1)).trans hx216_1
       have HR216_1 := Aside0.mk hi216_1
       have HC216_1 := Aside0.mk hl216_1
       clear hi216_1 hl216_1
       replace p216 := eq_true p216
       replace q216 := eq_true q216
       go_wp2_with (first | ((with_reducible refine gate_callee (f := 158) rfl ?_); refine goesL_ (some 23) rfl rfl Try.func158 (by kernel_rfl) rfl #[.agg #[.int .i64 ((rd_T183 l0 x5_1).f0), .slice A216_1 ((rd_T183 l0 x5_1).f1).length c216_1], .int .i64 x1_1] rfl (by (try simp only [List.map_toArray, List.map_cons, List.map_nil]); first | done | rfl | (simp only [List.length_drop, List.length_take]; rfl)) ?_; (with_reducible refine (laws_szFree.calls ((rd_T183 l0 x5_1).f0) _ _ ((rd_T183 l0 x5_1).f1) x1_1 t217 _ ?side1 ?side2 A6.out).mono ?_); (case side1 => repeat (first | exact (Kd.C_below HR216_1.out HB.out) | (with_reducible refine Kd.C_alloc ?_ _) | (with_reducible refine Kd.C_drewN ?_ _) | (with_reducible refine Kd.C_drew ?_))); (case side2 => exact HC216_1.out); rintro e w8 ⟨rfl, hb⟩; refine ⟨_, rfl, ?_⟩; have n0_ := Aside0.mk (below_step (by repeat (first | (with_reducible first | exact HB.out | apply below_alloc | apply pw_below_drewN | apply below_drew1) | exact HB.out)) hb); clear HB; have HB := n0_; clear n0_; (try clear hb); (try clear hb2); (try clear hk); (try clear hi)))
       go_ret
       exact ⟨by first | rfl | (simp [errW_none, errW_some] <;> rfl) | (simp [*, errW_none, errW_some] <;> rfl), by repeat (first | (with_reducible first | exact HB.out | apply below_alloc | apply pw_below_drewN | apply below_drew1) | exact HB.out)⟩
      ·rw [if_neg c7] at H
       have c7b0 : decide (t217 < 0) = false := decide_eq_false c7
       clear c7
       have H' := Aside0.mk H
       clear H
       have p216 : 0 ≤ (x5_1 : Int) := of_decide_eq_true (by with_reducible assumption)
       have q216 : x5_1 < (l0.length : Int) := of_decide_eq_true (by with_reducible assumption)
       obtain ⟨ad216, A216_1, c216_1, e216, hx216_0, hx216_1, hl216_1, hi216_1⟩ := at_T183 HR0.out x5_1 p216 q216
       cases e216
       replace hx216_0 := (HB.out.cell (World.block_lt_of_cell? w _ hx216_0)).trans hx216_0
       replace hx216_1 := (HB.out.cell (World.block_lt_of_cell? w _ hx216_1)).trans hx216_1
       have HR216_1 := Aside0.mk hi216_1
       have HC216_1 := Aside0.mk hl216_1
       clear hi216_1 hl216_1
       replace p216 := eq_true p216
       replace q216 := eq_true q216
       go_wp2_with (first | ((with_reducible refine gate_callee (f := 158) rfl ?_); refine goesL_ (some 23) rfl rfl Try.func158 (by kernel_rfl) rfl #[.agg #[.int .i64 ((rd_T183 l0 x5_1).f0), .slice A216_1 ((rd_T183 l0 x5_1).f1).length c216_1], .int .i64 x1_1] rfl (by (try simp only [List.map_toArray, List.map_cons, List.map_nil]); first | done | rfl | (simp only [List.length_drop, List.length_take]; rfl)) ?_; (with_reducible refine (laws_szFree.calls ((rd_T183 l0 x5_1).f0) _ _ ((rd_T183 l0 x5_1).f1) x1_1 t217 _ ?side1 ?side2 A6.out).mono ?_); (case side1 => repeat (first | exact (Kd.C_below HR216_1.out HB.out) | (with_reducible refine Kd.C_alloc ?_ _) | (with_reducible refine Kd.C_drewN ?_ _) | (with_reducible refine Kd.C_drew ?_))); (case side2 => exact HC216_1.out); rintro e w9 ⟨rfl, hb⟩; refine ⟨_, rfl, ?_⟩; have n0_ := Aside0.mk (below_step (by repeat (first | (with_reducible first | exact HB.out | apply below_alloc | apply pw_below_drewN | apply below_drew1) | exact HB.out)) hb); clear HB; have HB := n0_; clear n0_; (try clear hb); (try clear hb2); (try clear hk); (try clear hi)))
       go_roundg k1
       case measure => have := HK1.out; omega
       case rel => exact ⟨(t217), (wrap64 (x5_1 + 1)), (by first | rfl | (simp; done) | (simp [*]; done)), (by first | rfl | (simp; done) | (simp [*]; done)), H', ⟨by have := HK1.out; omega⟩, ⟨by repeat (first | (with_reducible first | exact HB.out | apply below_alloc | apply pw_below_drewN | apply below_drew1) | exact HB.out)⟩⟩
     ·rw [if_neg c5] at H
      exact absurd H (by simp)
    ·rw [if_neg c4] at H
     have c4b0 : decide (x5_1 < (l0.length : Int)) = false := decide_eq_false c4
     clear c4
     obtain rfl := Option.some.inj H
     go_wp2
     go_ret
     exact ⟨by first | rfl | (simp [errW_none, errW_some] <;> rfl) | (simp [*, errW_none, errW_some] <;> rfl), by repeat (first | (with_reducible first | exact HB.out | apply below_alloc | apply pw_below_drewN | apply below_drew1) | exact HB.out)⟩
def laws_szMeta.f (k : Nat) (a0_0 : Int) (a0_1 : Int) (a0_2 : Int) (l0_3 : List (S183)) (a1 : Int) : Option (Int) := (laws_szFreeS.f k l0_3 a1).bind fun t219 => (if t219 < 0 then (some (-1)) else (some t219))
theorem laws_szMeta.mono : ∀ a0 a1 a2 a3 a4 k, LeO (laws_szMeta.f k a0 a1 a2 a3 a4) (laws_szMeta.f (k + 1) a0 a1 a2 a3 a4) := by
 intro a0 a1 a2 a3 a4 k
 unfold laws_szMeta.f
 repeat' first
   | (with_reducible exact laws_szFreeS.mono _ _ _)
   | (with_reducible exact LeO.refl _)
   | (with_reducible exact LeO.none _)
   | (with_reducible refine LeO.ite ?_ ?_)
   | (with_reducible refine LeO.bind ?_ (fun _ => ?_))
   | exact laws_szFreeS.mono _ _ _
theorem laws_szMeta.calls (k : Nat) (a0_0 : Int) (a0_1 : Int) (a0_2 : Int) (A0_3 : Option Addr) (c0_3 : Nat) (l0_3 : List (S183)) (a1 : Int) (r : Int) (w : World) (hr0_3 : Kd.C k183 w A0_3 l0_3.length l0_3) (hc0_3 : l0_3.length ≤ c0_3) (h : laws_szMeta.f k a0_0 a0_1 a0_2 l0_3 a1 = some r) :
  Calls Try.prog 76 #[.agg #[.int .i64 a0_0, .int .i64 a0_1, .int .i64 a0_2, .slice A0_3 l0_3.length c0_3], .int .i64 a1] w fun e w' => e = .returned (.int .i64 r) ∧ Below w.heap.size w w' := by
 have hu69 := Try.underlying69
 have HR0_3 := Aside0.mk hr0_3
 have HC0_3 := Aside0.mk hc0_3
 clear hr0_3 hc0_3
 have HB := Aside0.mk (Below.refl w.heap.size w)
 have H : ((laws_szFreeS.f k l0_3 a1).bind fun t219 => (if t219 < 0 then (some (-1)) else (some t219))) = some r := h
 clear h
 replace H := Option.bind_eq_some_iff.mp H
 obtain ⟨t219, A30, H⟩ := H
 replace H : (if t219 < 0 then (some (-1)) else (some t219)) = some r := H
 have A3 := Aside0.mk A30
 clear A30
 by_cases c4 : t219 < 0
 ·rw [if_pos c4] at H
  have c4b0 : decide (t219 < 0) = true := decide_eq_true c4
  clear c4
  obtain rfl := Option.some.inj H
  go_enter Try.func76, Try.ntmps76
  go_wp2_with (first | ((with_reducible refine gate_dst (N := 2) rfl ?_); refine box_event ?hg (N := 2) ?hd (cs := #[.int .i64 a0_0, .int .i64 a0_1, .int .i64 a0_2, .slice A0_3 l0_3.length c0_3]) (t := 69) ?hr ?_; (case hd => rfl); (case hg => rfl); (case hr => first | (go_simp; done) | (go_simp; rfl)); intro gb218 hg w5 hbox hb; have n0_ := Aside0.mk (below_step (by repeat (first | (with_reducible first | exact HB.out | apply below_alloc | apply pw_below_drewN | apply below_drew1) | exact HB.out)) hb); have n1_ := Aside0.mk (hbox); have n2_ := Aside0.mk ((by rw [hg]; exact (below_size (by repeat (first | (with_reducible first | exact HB.out | apply below_alloc | apply pw_below_drewN | apply below_drew1) | exact HB.out))) : w.heap.size ≤ gb218)); have n3_ := Aside0.mk ((by rw [hg]; exact (below_size (by repeat (first | (with_reducible first | exact HB.out | apply below_alloc | apply pw_below_drewN | apply below_drew1) | exact HB.out))) : w.heap.size ≤ gb218)); clear HB; have HB := n0_; have BK218 := n1_; have GW218 := n2_; have GE218 := n3_; clear n0_ n1_ n2_ n3_; clear hb hbox hg; have hcz6_0 : w5.cell? ⟨gb218, 0, none⟩ = some (.int .i64 a0_0) := (blk_cell BK218.out 0).trans rfl; have hcz6_1 : w5.cell? ⟨gb218, 1, none⟩ = some (.int .i64 a0_1) := (blk_cell BK218.out 1).trans rfl; have hcz6_2 : w5.cell? ⟨gb218, 2, none⟩ = some (.int .i64 a0_2) := (blk_cell BK218.out 2).trans rfl; have hcz6_3 : w5.cell? ⟨gb218, 3, none⟩ = some (.slice A0_3 l0_3.length c0_3) := (blk_cell BK218.out 3).trans rfl; have hfz6_0 := blk_frozen BK218.out 0; have hfz6_1 := blk_frozen BK218.out 1; have hfz6_2 := blk_frozen BK218.out 2; have hfz6_3 := blk_frozen BK218.out 3) | ((with_reducible refine gate_callee (f := 130) rfl ?_); refine goesL_ (some 8) rfl rfl Try.func130 (by kernel_rfl) rfl #[.slice A0_3 l0_3.length c0_3, .int .i64 a1] rfl (by (try simp only [List.map_toArray, List.map_cons, List.map_nil]); first | done | rfl | (simp only [List.length_drop, List.length_take]; rfl)) ?_; (with_reducible refine (laws_szFreeS.calls k _ _ l0_3 a1 t219 _ ?side1 ?side2 A3.out).mono ?_); (case side1 => repeat (first | exact (Kd.C_below HR0_3.out HB.out) | (with_reducible refine Kd.C_alloc ?_ _) | (with_reducible refine Kd.C_drewN ?_ _) | (with_reducible refine Kd.C_drew ?_))); (case side2 => exact HC0_3.out); rintro e w7 ⟨rfl, hb⟩; refine ⟨_, rfl, ?_⟩; have n0_ := Aside0.mk (blk_below (g := gb218) (o := .cells #[.int .i64 a0_0, .int .i64 a0_1, .int .i64 a0_2, .slice A0_3 l0_3.length c0_3] 69 (0, 0)) (by (with_reducible repeat (first | refine blk_drewN ?_ _ | refine blk_drew ?_ | refine blk_alloc ?_ _)); exact BK218.out) hb); have n1_ := Aside0.mk (below_step (by repeat (first | (with_reducible first | exact HB.out | apply below_alloc | apply pw_below_drewN | apply below_drew1 | refine below_set ?_ GE218.out) | exact HB.out)) hb); clear BK218; clear HB; have BK218 := n0_; have HB := n1_; clear n0_ n1_; (try clear hb); (try clear hb2); (try clear hk); (try clear hi)))
  go_ret
  exact ⟨by first | rfl | (simp [errW_none, errW_some] <;> rfl) | (simp [*, errW_none, errW_some] <;> rfl), by repeat (first | (with_reducible first | exact HB.out | apply below_alloc | apply pw_below_drewN | apply below_drew1 | refine below_set ?_ GE218.out) | exact HB.out)⟩
 ·rw [if_neg c4] at H
  have c4b0 : decide (t219 < 0) = false := decide_eq_false c4
  clear c4
  obtain rfl := Option.some.inj H
  go_enter Try.func76, Try.ntmps76
  go_wp2_with (first | ((with_reducible refine gate_dst (N := 2) rfl ?_); refine box_event ?hg (N := 2) ?hd (cs := #[.int .i64 a0_0, .int .i64 a0_1, .int .i64 a0_2, .slice A0_3 l0_3.length c0_3]) (t := 69) ?hr ?_; (case hd => rfl); (case hg => rfl); (case hr => first | (go_simp; done) | (go_simp; rfl)); intro gb218 hg w8 hbox hb; have n0_ := Aside0.mk (below_step (by repeat (first | (with_reducible first | exact HB.out | apply below_alloc | apply pw_below_drewN | apply below_drew1) | exact HB.out)) hb); have n1_ := Aside0.mk (hbox); have n2_ := Aside0.mk ((by rw [hg]; exact (below_size (by repeat (first | (with_reducible first | exact HB.out | apply below_alloc | apply pw_below_drewN | apply below_drew1) | exact HB.out))) : w.heap.size ≤ gb218)); have n3_ := Aside0.mk ((by rw [hg]; exact (below_size (by repeat (first | (with_reducible first | exact HB.out | apply below_alloc | apply pw_below_drewN | apply below_drew1) | exact HB.out))) : w.heap.size ≤ gb218)); clear HB; have HB := n0_; have BK218 := n1_; have GW218 := n2_; have GE218 := n3_; clear n0_ n1_ n2_ n3_; clear hb hbox hg; have hcz9_0 : w8.cell? ⟨gb218, 0, none⟩ = some (.int .i64 a0_0) := (blk_cell BK218.out 0).trans rfl; have hcz9_1 : w8.cell? ⟨gb218, 1, none⟩ = some (.int .i64 a0_1) := (blk_cell BK218.out 1).trans rfl; have hcz9_2 : w8.cell? ⟨gb218, 2, none⟩ = some (.int .i64 a0_2) := (blk_cell BK218.out 2).trans rfl; have hcz9_3 : w8.cell? ⟨gb218, 3, none⟩ = some (.slice A0_3 l0_3.length c0_3) := (blk_cell BK218.out 3).trans rfl; have hfz9_0 := blk_frozen BK218.out 0; have hfz9_1 := blk_frozen BK218.out 1; have hfz9_2 := blk_frozen BK218.out 2; have hfz9_3 := blk_frozen BK218.out 3) | ((with_reducible refine gate_callee (f := 130) rfl ?_); refine goesL_ (some 8) rfl rfl Try.func130 (by kernel_rfl) rfl #[.slice A0_3 l0_3.length c0_3, .int .i64 a1] rfl (by (try simp only [List.map_toArray, List.map_cons, List.map_nil]); first | done | rfl | (simp only [List.length_drop, List.length_take]; rfl)) ?_; (with_reducible refine (laws_szFreeS.calls k _ _ l0_3 a1 t219 _ ?side1 ?side2 A3.out).mono ?_); (case side1 => repeat (first | exact (Kd.C_below HR0_3.out HB.out) | (with_reducible refine Kd.C_alloc ?_ _) | (with_reducible refine Kd.C_drewN ?_ _) | (with_reducible refine Kd.C_drew ?_))); (case side2 => exact HC0_3.out); rintro e w10 ⟨rfl, hb⟩; refine ⟨_, rfl, ?_⟩; have n0_ := Aside0.mk (blk_below (g := gb218) (o := .cells #[.int .i64 a0_0, .int .i64 a0_1, .int .i64 a0_2, .slice A0_3 l0_3.length c0_3] 69 (0, 0)) (by (with_reducible repeat (first | refine blk_drewN ?_ _ | refine blk_drew ?_ | refine blk_alloc ?_ _)); exact BK218.out) hb); have n1_ := Aside0.mk (below_step (by repeat (first | (with_reducible first | exact HB.out | apply below_alloc | apply pw_below_drewN | apply below_drew1 | refine below_set ?_ GE218.out) | exact HB.out)) hb); clear BK218; clear HB; have BK218 := n0_; have HB := n1_; clear n0_ n1_; (try clear hb); (try clear hb2); (try clear hk); (try clear hi)))
  go_ret
  exact ⟨by first | rfl | (simp [errW_none, errW_some] <;> rfl) | (simp [*, errW_none, errW_some] <;> rfl), by repeat (first | (with_reducible first | exact HB.out | apply below_alloc | apply pw_below_drewN | apply below_drew1 | refine below_set ?_ GE218.out) | exact HB.out)⟩
def laws_szTxn.f (k : Nat) (a0_0 : Int) (a0_1 : Int) (a0_2 : Int) (l0_3 : List (S183)) (l0_4 : List ByteArray) (l0_5 : List (S140)) (a0_6 : Int) (l0_7 : List Int) (l0_8 : List Int) (l0_9 : List Int) (a0_10 : Int) (a1 : Int) : Option (Int) := (laws_szMeta.f k a0_0 a0_1 a0_2 l0_3 a1).bind fun t221 => (if t221 < 0 then (some (-1)) else ((laws_szWork.f k l0_4 l0_5 a0_6 l0_7 l0_8 l0_9 t221).bind fun t222 => (if t222 < 0 then (some (-1)) else (some t222))))
theorem laws_szTxn.calls (k : Nat) (a0_0 : Int) (a0_1 : Int) (a0_2 : Int) (A0_3 : Option Addr) (c0_3 : Nat) (l0_3 : List (S183)) (A0_4 : Option Addr) (c0_4 : Nat) (l0_4 : List ByteArray) (A0_5 : Option Addr) (c0_5 : Nat) (l0_5 : List (S140)) (a0_6 : Int) (A0_7 : Option Addr) (c0_7 : Nat) (l0_7 : List Int) (A0_8 : Option Addr) (c0_8 : Nat) (l0_8 : List Int) (A0_9 : Option Addr) (c0_9 : Nat) (l0_9 : List Int) (a0_10 : Int) (a1 : Int) (r : Int) (w : World) (hr0_3 : Kd.C k183 w A0_3 l0_3.length l0_3) (hc0_3 : l0_3.length ≤ c0_3) (hr0_4 : Kd.C Kd.string w A0_4 l0_4.length l0_4) (hc0_4 : l0_4.length ≤ c0_4) (hr0_5 : Kd.C k140 w A0_5 l0_5.length l0_5) (hc0_5 : l0_5.length ≤ c0_5) (hr0_7 : Kd.C (Kd.int .i64) w A0_7 l0_7.length l0_7) (hc0_7 : l0_7.length ≤ c0_7) (hr0_8 : Kd.C (Kd.int .i64) w A0_8 l0_8.length l0_8) (hc0_8 : l0_8.length ≤ c0_8) (hr0_9 : Kd.C (Kd.int .i64) w A0_9 l0_9.length l0_9) (hc0_9 : l0_9.length ≤ c0_9) (h : laws_szTxn.f k a0_0 a0_1 a0_2 l0_3 l0_4 l0_5 a0_6 l0_7 l0_8 l0_9 a0_10 a1 = some r) :
  Calls Try.prog 37 #[.agg #[.int .i64 a0_0, .int .i64 a0_1, .int .i64 a0_2, .slice A0_3 l0_3.length c0_3, .slice A0_4 l0_4.length c0_4, .slice A0_5 l0_5.length c0_5, .int .i64 a0_6, .slice A0_7 l0_7.length c0_7, .slice A0_8 l0_8.length c0_8, .slice A0_9 l0_9.length c0_9, .int .i64 a0_10], .int .i64 a1] w fun e w' => e = .returned (.int .i64 r) ∧ Below w.heap.size w w' := by
 have hu72 := Try.underlying72
 have hu69 := Try.underlying69
 have hu28 := Try.underlying28
 have HR0_3 := Aside0.mk hr0_3
 have HC0_3 := Aside0.mk hc0_3
 clear hr0_3 hc0_3
 have HR0_4 := Aside0.mk hr0_4
 have HC0_4 := Aside0.mk hc0_4
 clear hr0_4 hc0_4
 have HR0_5 := Aside0.mk hr0_5
 have HC0_5 := Aside0.mk hc0_5
 clear hr0_5 hc0_5
 have HR0_7 := Aside0.mk hr0_7
 have HC0_7 := Aside0.mk hc0_7
 clear hr0_7 hc0_7
 have HR0_8 := Aside0.mk hr0_8
 have HC0_8 := Aside0.mk hc0_8
 clear hr0_8 hc0_8
 have HR0_9 := Aside0.mk hr0_9
 have HC0_9 := Aside0.mk hc0_9
 clear hr0_9 hc0_9
 have HB := Aside0.mk (Below.refl w.heap.size w)
 have H : ((laws_szMeta.f k a0_0 a0_1 a0_2 l0_3 a1).bind fun t221 => (if t221 < 0 then (some (-1)) else ((laws_szWork.f k l0_4 l0_5 a0_6 l0_7 l0_8 l0_9 t221).bind fun t222 => (if t222 < 0 then (some (-1)) else (some t222))))) = some r := h
 clear h
 replace H := Option.bind_eq_some_iff.mp H
 obtain ⟨t221, A30, H⟩ := H
 replace H : (if t221 < 0 then (some (-1)) else ((laws_szWork.f k l0_4 l0_5 a0_6 l0_7 l0_8 l0_9 t221).bind fun t222 => (if t222 < 0 then (some (-1)) else (some t222)))) = some r := H
 have A3 := Aside0.mk A30
 clear A30
 by_cases c4 : t221 < 0
 ·rw [if_pos c4] at H
  have c4b0 : decide (t221 < 0) = true := decide_eq_true c4
  clear c4
  obtain rfl := Option.some.inj H
  go_enter Try.func37, Try.ntmps37
  go_wp2_with (first | ((with_reducible refine gate_dst (N := 2) rfl ?_); refine box_event ?hg (N := 2) ?hd (cs := #[.int .i64 a0_0, .int .i64 a0_1, .int .i64 a0_2, .slice A0_3 l0_3.length c0_3, .slice A0_4 l0_4.length c0_4, .slice A0_5 l0_5.length c0_5, .int .i64 a0_6, .slice A0_7 l0_7.length c0_7, .slice A0_8 l0_8.length c0_8, .slice A0_9 l0_9.length c0_9, .int .i64 a0_10]) (t := 72) ?hr ?_; (case hd => rfl); (case hg => rfl); (case hr => first | (go_simp; done) | (go_simp; rfl)); intro gb220 hg w5 hbox hb; have n0_ := Aside0.mk (below_step (by repeat (first | (with_reducible first | exact HB.out | apply below_alloc | apply pw_below_drewN | apply below_drew1) | exact HB.out)) hb); have n1_ := Aside0.mk (hbox); have n2_ := Aside0.mk ((by rw [hg]; exact (below_size (by repeat (first | (with_reducible first | exact HB.out | apply below_alloc | apply pw_below_drewN | apply below_drew1) | exact HB.out))) : w.heap.size ≤ gb220)); have n3_ := Aside0.mk ((by rw [hg]; exact (below_size (by repeat (first | (with_reducible first | exact HB.out | apply below_alloc | apply pw_below_drewN | apply below_drew1) | exact HB.out))) : w.heap.size ≤ gb220)); clear HB; have HB := n0_; have BK220 := n1_; have GW220 := n2_; have GE220 := n3_; clear n0_ n1_ n2_ n3_; clear hb hbox hg; have hcz6_0 : w5.cell? ⟨gb220, 0, none⟩ = some (.int .i64 a0_0) := (blk_cell BK220.out 0).trans rfl; have hcz6_1 : w5.cell? ⟨gb220, 1, none⟩ = some (.int .i64 a0_1) := (blk_cell BK220.out 1).trans rfl; have hcz6_2 : w5.cell? ⟨gb220, 2, none⟩ = some (.int .i64 a0_2) := (blk_cell BK220.out 2).trans rfl; have hcz6_3 : w5.cell? ⟨gb220, 3, none⟩ = some (.slice A0_3 l0_3.length c0_3) := (blk_cell BK220.out 3).trans rfl; have hcz6_4 : w5.cell? ⟨gb220, 4, none⟩ = some (.slice A0_4 l0_4.length c0_4) := (blk_cell BK220.out 4).trans rfl; have hcz6_5 : w5.cell? ⟨gb220, 5, none⟩ = some (.slice A0_5 l0_5.length c0_5) := (blk_cell BK220.out 5).trans rfl; have hcz6_6 : w5.cell? ⟨gb220, 6, none⟩ = some (.int .i64 a0_6) := (blk_cell BK220.out 6).trans rfl; have hcz6_7 : w5.cell? ⟨gb220, 7, none⟩ = some (.slice A0_7 l0_7.length c0_7) := (blk_cell BK220.out 7).trans rfl; have hcz6_8 : w5.cell? ⟨gb220, 8, none⟩ = some (.slice A0_8 l0_8.length c0_8) := (blk_cell BK220.out 8).trans rfl; have hcz6_9 : w5.cell? ⟨gb220, 9, none⟩ = some (.slice A0_9 l0_9.length c0_9) := (blk_cell BK220.out 9).trans rfl; have hcz6_10 : w5.cell? ⟨gb220, 10, none⟩ = some (.int .i64 a0_10) := (blk_cell BK220.out 10).trans rfl; have hfz6_0 := blk_frozen BK220.out 0; have hfz6_1 := blk_frozen BK220.out 1; have hfz6_2 := blk_frozen BK220.out 2; have hfz6_3 := blk_frozen BK220.out 3; have hfz6_4 := blk_frozen BK220.out 4; have hfz6_5 := blk_frozen BK220.out 5; have hfz6_6 := blk_frozen BK220.out 6; have hfz6_7 := blk_frozen BK220.out 7; have hfz6_8 := blk_frozen BK220.out 8; have hfz6_9 := blk_frozen BK220.out 9; have hfz6_10 := blk_frozen BK220.out 10) | ((with_reducible refine gate_callee (f := 76) rfl ?_); refine goesL_ (some 8) rfl rfl Try.func76 (by kernel_rfl) rfl #[.agg #[.int .i64 a0_0, .int .i64 a0_1, .int .i64 a0_2, .slice A0_3 l0_3.length c0_3], .int .i64 a1] rfl (by (try simp only [List.map_toArray, List.map_cons, List.map_nil]); first | done | rfl | (simp only [List.length_drop, List.length_take]; rfl)) ?_; (with_reducible refine (laws_szMeta.calls k a0_0 a0_1 a0_2 _ _ l0_3 a1 t221 _ ?side1 ?side2 A3.out).mono ?_); (case side1 => repeat (first | exact (Kd.C_below HR0_3.out HB.out) | (with_reducible refine Kd.C_alloc ?_ _) | (with_reducible refine Kd.C_drewN ?_ _) | (with_reducible refine Kd.C_drew ?_))); (case side2 => exact HC0_3.out); rintro e w7 ⟨rfl, hb⟩; refine ⟨_, rfl, ?_⟩; have n0_ := Aside0.mk (blk_below (g := gb220) (o := .cells #[.int .i64 a0_0, .int .i64 a0_1, .int .i64 a0_2, .slice A0_3 l0_3.length c0_3, .slice A0_4 l0_4.length c0_4, .slice A0_5 l0_5.length c0_5, .int .i64 a0_6, .slice A0_7 l0_7.length c0_7, .slice A0_8 l0_8.length c0_8, .slice A0_9 l0_9.length c0_9, .int .i64 a0_10] 72 (0, 0)) (by (with_reducible repeat (first | refine blk_drewN ?_ _ | refine blk_drew ?_ | refine blk_alloc ?_ _)); exact BK220.out) hb); have n1_ := Aside0.mk (below_step (by repeat (first | (with_reducible first | exact HB.out | apply below_alloc | apply pw_below_drewN | apply below_drew1 | refine below_set ?_ GE220.out) | exact HB.out)) hb); clear BK220; clear HB; have BK220 := n0_; have HB := n1_; clear n0_ n1_; (try clear hb); (try clear hb2); (try clear hk); (try clear hi)))
  go_ret
  exact ⟨by first | rfl | (simp [errW_none, errW_some] <;> rfl) | (simp [*, errW_none, errW_some] <;> rfl), by repeat (first | (with_reducible first | exact HB.out | apply below_alloc | apply pw_below_drewN | apply below_drew1 | refine below_set ?_ GE220.out) | exact HB.out)⟩
 ·rw [if_neg c4] at H
  have c4b0 : decide (t221 < 0) = false := decide_eq_false c4
  clear c4
  replace H := Option.bind_eq_some_iff.mp H
  obtain ⟨t222, A80, H⟩ := H
  replace H : (if t222 < 0 then (some (-1)) else (some t222)) = some r := H
  have A8 := Aside0.mk A80
  clear A80
  by_cases c9 : t222 < 0
  ·rw [if_pos c9] at H
   have c9b0 : decide (t222 < 0) = true := decide_eq_true c9
   clear c9
   obtain rfl := Option.some.inj H
   go_enter Try.func37, Try.ntmps37
   go_wp2_with (first | ((with_reducible refine gate_dst (N := 2) rfl ?_); refine box_event ?hg (N := 2) ?hd (cs := #[.int .i64 a0_0, .int .i64 a0_1, .int .i64 a0_2, .slice A0_3 l0_3.length c0_3, .slice A0_4 l0_4.length c0_4, .slice A0_5 l0_5.length c0_5, .int .i64 a0_6, .slice A0_7 l0_7.length c0_7, .slice A0_8 l0_8.length c0_8, .slice A0_9 l0_9.length c0_9, .int .i64 a0_10]) (t := 72) ?hr ?_; (case hd => rfl); (case hg => rfl); (case hr => first | (go_simp; done) | (go_simp; rfl)); intro gb220 hg w10 hbox hb; have n0_ := Aside0.mk (below_step (by repeat (first | (with_reducible first | exact HB.out | apply below_alloc | apply pw_below_drewN | apply below_drew1) | exact HB.out)) hb); have n1_ := Aside0.mk (hbox); have n2_ := Aside0.mk ((by rw [hg]; exact (below_size (by repeat (first | (with_reducible first | exact HB.out | apply below_alloc | apply pw_below_drewN | apply below_drew1) | exact HB.out))) : w.heap.size ≤ gb220)); have n3_ := Aside0.mk ((by rw [hg]; exact (below_size (by repeat (first | (with_reducible first | exact HB.out | apply below_alloc | apply pw_below_drewN | apply below_drew1) | exact HB.out))) : w.heap.size ≤ gb220)); clear HB; have HB := n0_; have BK220 := n1_; have GW220 := n2_; have GE220 := n3_; clear n0_ n1_ n2_ n3_; clear hb hbox hg; have hcz11_0 : w10.cell? ⟨gb220, 0, none⟩ = some (.int .i64 a0_0) := (blk_cell BK220.out 0).trans rfl; have hcz11_1 : w10.cell? ⟨gb220, 1, none⟩ = some (.int .i64 a0_1) := (blk_cell BK220.out 1).trans rfl; have hcz11_2 : w10.cell? ⟨gb220, 2, none⟩ = some (.int .i64 a0_2) := (blk_cell BK220.out 2).trans rfl; have hcz11_3 : w10.cell? ⟨gb220, 3, none⟩ = some (.slice A0_3 l0_3.length c0_3) := (blk_cell BK220.out 3).trans rfl; have hcz11_4 : w10.cell? ⟨gb220, 4, none⟩ = some (.slice A0_4 l0_4.length c0_4) := (blk_cell BK220.out 4).trans rfl; have hcz11_5 : w10.cell? ⟨gb220, 5, none⟩ = some (.slice A0_5 l0_5.length c0_5) := (blk_cell BK220.out 5).trans rfl; have hcz11_6 : w10.cell? ⟨gb220, 6, none⟩ = some (.int .i64 a0_6) := (blk_cell BK220.out 6).trans rfl; have hcz11_7 : w10.cell? ⟨gb220, 7, none⟩ = some (.slice A0_7 l0_7.length c0_7) := (blk_cell BK220.out 7).trans rfl; have hcz11_8 : w10.cell? ⟨gb220, 8, none⟩ = some (.slice A0_8 l0_8.length c0_8) := (blk_cell BK220.out 8).trans rfl; have hcz11_9 : w10.cell? ⟨gb220, 9, none⟩ = some (.slice A0_9 l0_9.length c0_9) := (blk_cell BK220.out 9).trans rfl; have hcz11_10 : w10.cell? ⟨gb220, 10, none⟩ = some (.int .i64 a0_10) := (blk_cell BK220.out 10).trans rfl; have hfz11_0 := blk_frozen BK220.out 0; have hfz11_1 := blk_frozen BK220.out 1; have hfz11_2 := blk_frozen BK220.out 2; have hfz11_3 := blk_frozen BK220.out 3; have hfz11_4 := blk_frozen BK220.out 4; have hfz11_5 := blk_frozen BK220.out 5; have hfz11_6 := blk_frozen BK220.out 6; have hfz11_7 := blk_frozen BK220.out 7; have hfz11_8 := blk_frozen BK220.out 8; have hfz11_9 := blk_frozen BK220.out 9; have hfz11_10 := blk_frozen BK220.out 10) | ((with_reducible refine gate_callee (f := 76) rfl ?_); refine goesL_ (some 8) rfl rfl Try.func76 (by kernel_rfl) rfl #[.agg #[.int .i64 a0_0, .int .i64 a0_1, .int .i64 a0_2, .slice A0_3 l0_3.length c0_3], .int .i64 a1] rfl (by (try simp only [List.map_toArray, List.map_cons, List.map_nil]); first | done | rfl | (simp only [List.length_drop, List.length_take]; rfl)) ?_; (with_reducible refine (laws_szMeta.calls k a0_0 a0_1 a0_2 _ _ l0_3 a1 t221 _ ?side1 ?side2 A3.out).mono ?_); (case side1 => repeat (first | exact (Kd.C_below HR0_3.out HB.out) | (with_reducible refine Kd.C_alloc ?_ _) | (with_reducible refine Kd.C_drewN ?_ _) | (with_reducible refine Kd.C_drew ?_))); (case side2 => exact HC0_3.out); rintro e w12 ⟨rfl, hb⟩; refine ⟨_, rfl, ?_⟩; have n0_ := Aside0.mk (blk_below (g := gb220) (o := .cells #[.int .i64 a0_0, .int .i64 a0_1, .int .i64 a0_2, .slice A0_3 l0_3.length c0_3, .slice A0_4 l0_4.length c0_4, .slice A0_5 l0_5.length c0_5, .int .i64 a0_6, .slice A0_7 l0_7.length c0_7, .slice A0_8 l0_8.length c0_8, .slice A0_9 l0_9.length c0_9, .int .i64 a0_10] 72 (0, 0)) (by (with_reducible repeat (first | refine blk_drewN ?_ _ | refine blk_drew ?_ | refine blk_alloc ?_ _)); exact BK220.out) hb); have n1_ := Aside0.mk (below_step (by repeat (first | (with_reducible first | exact HB.out | apply below_alloc | apply pw_below_drewN | apply below_drew1 | refine below_set ?_ GE220.out) | exact HB.out)) hb); clear BK220; clear HB; have BK220 := n0_; have HB := n1_; clear n0_ n1_; (try clear hb); (try clear hb2); (try clear hk); (try clear hi); have hcz13_0 : w12.cell? ⟨gb220, 0, none⟩ = some (.int .i64 a0_0) := (blk_cell BK220.out 0).trans rfl; have hcz13_1 : w12.cell? ⟨gb220, 1, none⟩ = some (.int .i64 a0_1) := (blk_cell BK220.out 1).trans rfl; have hcz13_2 : w12.cell? ⟨gb220, 2, none⟩ = some (.int .i64 a0_2) := (blk_cell BK220.out 2).trans rfl; have hcz13_3 : w12.cell? ⟨gb220, 3, none⟩ = some (.slice A0_3 l0_3.length c0_3) := (blk_cell BK220.out 3).trans rfl; have hcz13_4 : w12.cell? ⟨gb220, 4, none⟩ = some (.slice A0_4 l0_4.length c0_4) := (blk_cell BK220.out 4).trans rfl; have hcz13_5 : w12.cell? ⟨gb220, 5, none⟩ = some (.slice A0_5 l0_5.length c0_5) := (blk_cell BK220.out 5).trans rfl; have hcz13_6 : w12.cell? ⟨gb220, 6, none⟩ = some (.int .i64 a0_6) := (blk_cell BK220.out 6).trans rfl; have hcz13_7 : w12.cell? ⟨gb220, 7, none⟩ = some (.slice A0_7 l0_7.length c0_7) := (blk_cell BK220.out 7).trans rfl; have hcz13_8 : w12.cell? ⟨gb220, 8, none⟩ = some (.slice A0_8 l0_8.length c0_8) := (blk_cell BK220.out 8).trans rfl; have hcz13_9 : w12.cell? ⟨gb220, 9, none⟩ = some (.slice A0_9 l0_9.length c0_9) := (blk_cell BK220.out 9).trans rfl; have hcz13_10 : w12.cell? ⟨gb220, 10, none⟩ = some (.int .i64 a0_10) := (blk_cell BK220.out 10).trans rfl; have hfz13_0 := blk_frozen BK220.out 0; have hfz13_1 := blk_frozen BK220.out 1; have hfz13_2 := blk_frozen BK220.out 2; have hfz13_3 := blk_frozen BK220.out 3; have hfz13_4 := blk_frozen BK220.out 4; have hfz13_5 := blk_frozen BK220.out 5; have hfz13_6 := blk_frozen BK220.out 6; have hfz13_7 := blk_frozen BK220.out 7; have hfz13_8 := blk_frozen BK220.out 8; have hfz13_9 := blk_frozen BK220.out 9; have hfz13_10 := blk_frozen BK220.out 10) | ((with_reducible refine gate_callee (f := 9) rfl ?_); refine goesL_ (some 14) rfl rfl Try.func9 (by kernel_rfl) rfl #[.agg #[.slice A0_4 l0_4.length c0_4, .slice A0_5 l0_5.length c0_5, .int .i64 a0_6, .slice A0_7 l0_7.length c0_7, .slice A0_8 l0_8.length c0_8, .slice A0_9 l0_9.length c0_9], .int .i64 t221] rfl (by (try simp only [List.map_toArray, List.map_cons, List.map_nil]); first | done | rfl | (simp only [List.length_drop, List.length_take]; rfl)) ?_; (with_reducible refine (laws_szWork.calls k _ _ l0_4 _ _ l0_5 a0_6 _ _ l0_7 _ _ l0_8 _ _ l0_9 t221 t222 _ ?side1 ?side2 ?side3 ?side4 ?side5 ?side6 ?side7 ?side8 ?side9 ?side10 A8.out).mono ?_); (case side1 => repeat (first | exact (Kd.C_below HR0_4.out HB.out) | (with_reducible refine Kd.C_alloc ?_ _) | (with_reducible refine Kd.C_drewN ?_ _) | (with_reducible refine Kd.C_drew ?_))); (case side2 => exact HC0_4.out); (case side3 => repeat (first | exact (Kd.C_below HR0_5.out HB.out) | (with_reducible refine Kd.C_alloc ?_ _) | (with_reducible refine Kd.C_drewN ?_ _) | (with_reducible refine Kd.C_drew ?_))); (case side4 => exact HC0_5.out); (case side5 => repeat (first | exact (Kd.C_below HR0_7.out HB.out) | (with_reducible refine Kd.C_alloc ?_ _) | (with_reducible refine Kd.C_drewN ?_ _) | (with_reducible refine Kd.C_drew ?_))); (case side6 => exact HC0_7.out); (case side7 => repeat (first | exact (Kd.C_below HR0_8.out HB.out) | (with_reducible refine Kd.C_alloc ?_ _) | (with_reducible refine Kd.C_drewN ?_ _) | (with_reducible refine Kd.C_drew ?_))); (case side8 => exact HC0_8.out); (case side9 => repeat (first | exact (Kd.C_below HR0_9.out HB.out) | (with_reducible refine Kd.C_alloc ?_ _) | (with_reducible refine Kd.C_drewN ?_ _) | (with_reducible refine Kd.C_drew ?_))); (case side10 => exact HC0_9.out); rintro e w14 ⟨rfl, hb⟩; refine ⟨_, rfl, ?_⟩; have n0_ := Aside0.mk (blk_below (g := gb220) (o := .cells #[.int .i64 a0_0, .int .i64 a0_1, .int .i64 a0_2, .slice A0_3 l0_3.length c0_3, .slice A0_4 l0_4.length c0_4, .slice A0_5 l0_5.length c0_5, .int .i64 a0_6, .slice A0_7 l0_7.length c0_7, .slice A0_8 l0_8.length c0_8, .slice A0_9 l0_9.length c0_9, .int .i64 a0_10] 72 (0, 0)) (by (with_reducible repeat (first | refine blk_drewN ?_ _ | refine blk_drew ?_ | refine blk_alloc ?_ _)); exact BK220.out) hb); have n1_ := Aside0.mk (below_step (by repeat (first | (with_reducible first | exact HB.out | apply below_alloc | apply pw_below_drewN | apply below_drew1 | refine below_set ?_ GE220.out) | exact HB.out)) hb); clear BK220; clear HB; have BK220 := n0_; have HB := n1_; clear n0_ n1_; (try clear hb); (try clear hb2); (try clear hk); (try clear hi)))
   go_ret
   exact ⟨by first | rfl | (simp [errW_none, errW_some] <;> rfl) | (simp [*, errW_none, errW_some] <;> rfl), by repeat (first | (with_reducible first | exact HB.out | apply below_alloc | apply pw_below_drewN | apply below_drew1 | refine below_set ?_ GE220.out) | exact HB.out)⟩
  ·rw [if_neg c9] at H
   have c9b0 : decide (t222 < 0) = false := decide_eq_false c9
   clear c9
   obtain rfl := Option.some.inj H
   go_enter Try.func37, Try.ntmps37
   go_wp2_with (first | ((with_reducible refine gate_dst (N := 2) rfl ?_); refine box_event ?hg (N := 2) ?hd (cs := #[.int .i64 a0_0, .int .i64 a0_1, .int .i64 a0_2, .slice A0_3 l0_3.length c0_3, .slice A0_4 l0_4.length c0_4, .slice A0_5 l0_5.length c0_5, .int .i64 a0_6, .slice A0_7 l0_7.length c0_7, .slice A0_8 l0_8.length c0_8, .slice A0_9 l0_9.length c0_9, .int .i64 a0_10]) (t := 72) ?hr ?_; (case hd => rfl); (case hg => rfl); (case hr => first | (go_simp; done) | (go_simp; rfl)); intro gb220 hg w15 hbox hb; have n0_ := Aside0.mk (below_step (by repeat (first | (with_reducible first | exact HB.out | apply below_alloc | apply pw_below_drewN | apply below_drew1) | exact HB.out)) hb); have n1_ := Aside0.mk (hbox); have n2_ := Aside0.mk ((by rw [hg]; exact (below_size (by repeat (first | (with_reducible first | exact HB.out | apply below_alloc | apply pw_below_drewN | apply below_drew1) | exact HB.out))) : w.heap.size ≤ gb220)); have n3_ := Aside0.mk ((by rw [hg]; exact (below_size (by repeat (first | (with_reducible first | exact HB.out | apply below_alloc | apply pw_below_drewN | apply below_drew1) | exact HB.out))) : w.heap.size ≤ gb220)); clear HB; have HB := n0_; have BK220 := n1_; have GW220 := n2_; have GE220 := n3_; clear n0_ n1_ n2_ n3_; clear hb hbox hg; have hcz16_0 : w15.cell? ⟨gb220, 0, none⟩ = some (.int .i64 a0_0) := (blk_cell BK220.out 0).trans rfl; have hcz16_1 : w15.cell? ⟨gb220, 1, none⟩ = some (.int .i64 a0_1) := (blk_cell BK220.out 1).trans rfl; have hcz16_2 : w15.cell? ⟨gb220, 2, none⟩ = some (.int .i64 a0_2) := (blk_cell BK220.out 2).trans rfl; have hcz16_3 : w15.cell? ⟨gb220, 3, none⟩ = some (.slice A0_3 l0_3.length c0_3) := (blk_cell BK220.out 3).trans rfl; have hcz16_4 : w15.cell? ⟨gb220, 4, none⟩ = some (.slice A0_4 l0_4.length c0_4) := (blk_cell BK220.out 4).trans rfl; have hcz16_5 : w15.cell? ⟨gb220, 5, none⟩ = some (.slice A0_5 l0_5.length c0_5) := (blk_cell BK220.out 5).trans rfl; have hcz16_6 : w15.cell? ⟨gb220, 6, none⟩ = some (.int .i64 a0_6) := (blk_cell BK220.out 6).trans rfl; have hcz16_7 : w15.cell? ⟨gb220, 7, none⟩ = some (.slice A0_7 l0_7.length c0_7) := (blk_cell BK220.out 7).trans rfl; have hcz16_8 : w15.cell? ⟨gb220, 8, none⟩ = some (.slice A0_8 l0_8.length c0_8) := (blk_cell BK220.out 8).trans rfl; have hcz16_9 : w15.cell? ⟨gb220, 9, none⟩ = some (.slice A0_9 l0_9.length c0_9) := (blk_cell BK220.out 9).trans rfl; have hcz16_10 : w15.cell? ⟨gb220, 10, none⟩ = some (.int .i64 a0_10) := (blk_cell BK220.out 10).trans rfl; have hfz16_0 := blk_frozen BK220.out 0; have hfz16_1 := blk_frozen BK220.out 1; have hfz16_2 := blk_frozen BK220.out 2; have hfz16_3 := blk_frozen BK220.out 3; have hfz16_4 := blk_frozen BK220.out 4; have hfz16_5 := blk_frozen BK220.out 5; have hfz16_6 := blk_frozen BK220.out 6; have hfz16_7 := blk_frozen BK220.out 7; have hfz16_8 := blk_frozen BK220.out 8; have hfz16_9 := blk_frozen BK220.out 9; have hfz16_10 := blk_frozen BK220.out 10) | ((with_reducible refine gate_callee (f := 76) rfl ?_); refine goesL_ (some 8) rfl rfl Try.func76 (by kernel_rfl) rfl #[.agg #[.int .i64 a0_0, .int .i64 a0_1, .int .i64 a0_2, .slice A0_3 l0_3.length c0_3], .int .i64 a1] rfl (by (try simp only [List.map_toArray, List.map_cons, List.map_nil]); first | done | rfl | (simp only [List.length_drop, List.length_take]; rfl)) ?_; (with_reducible refine (laws_szMeta.calls k a0_0 a0_1 a0_2 _ _ l0_3 a1 t221 _ ?side1 ?side2 A3.out).mono ?_); (case side1 => repeat (first | exact (Kd.C_below HR0_3.out HB.out) | (with_reducible refine Kd.C_alloc ?_ _) | (with_reducible refine Kd.C_drewN ?_ _) | (with_reducible refine Kd.C_drew ?_))); (case side2 => exact HC0_3.out); rintro e w17 ⟨rfl, hb⟩; refine ⟨_, rfl, ?_⟩; have n0_ := Aside0.mk (blk_below (g := gb220) (o := .cells #[.int .i64 a0_0, .int .i64 a0_1, .int .i64 a0_2, .slice A0_3 l0_3.length c0_3, .slice A0_4 l0_4.length c0_4, .slice A0_5 l0_5.length c0_5, .int .i64 a0_6, .slice A0_7 l0_7.length c0_7, .slice A0_8 l0_8.length c0_8, .slice A0_9 l0_9.length c0_9, .int .i64 a0_10] 72 (0, 0)) (by (with_reducible repeat (first | refine blk_drewN ?_ _ | refine blk_drew ?_ | refine blk_alloc ?_ _)); exact BK220.out) hb); have n1_ := Aside0.mk (below_step (by repeat (first | (with_reducible first | exact HB.out | apply below_alloc | apply pw_below_drewN | apply below_drew1 | refine below_set ?_ GE220.out) | exact HB.out)) hb); clear BK220; clear HB; have BK220 := n0_; have HB := n1_; clear n0_ n1_; (try clear hb); (try clear hb2); (try clear hk); (try clear hi); have hcz18_0 : w17.cell? ⟨gb220, 0, none⟩ = some (.int .i64 a0_0) := (blk_cell BK220.out 0).trans rfl; have hcz18_1 : w17.cell? ⟨gb220, 1, none⟩ = some (.int .i64 a0_1) := (blk_cell BK220.out 1).trans rfl; have hcz18_2 : w17.cell? ⟨gb220, 2, none⟩ = some (.int .i64 a0_2) := (blk_cell BK220.out 2).trans rfl; have hcz18_3 : w17.cell? ⟨gb220, 3, none⟩ = some (.slice A0_3 l0_3.length c0_3) := (blk_cell BK220.out 3).trans rfl; have hcz18_4 : w17.cell? ⟨gb220, 4, none⟩ = some (.slice A0_4 l0_4.length c0_4) := (blk_cell BK220.out 4).trans rfl; have hcz18_5 : w17.cell? ⟨gb220, 5, none⟩ = some (.slice A0_5 l0_5.length c0_5) := (blk_cell BK220.out 5).trans rfl; have hcz18_6 : w17.cell? ⟨gb220, 6, none⟩ = some (.int .i64 a0_6) := (blk_cell BK220.out 6).trans rfl; have hcz18_7 : w17.cell? ⟨gb220, 7, none⟩ = some (.slice A0_7 l0_7.length c0_7) := (blk_cell BK220.out 7).trans rfl; have hcz18_8 : w17.cell? ⟨gb220, 8, none⟩ = some (.slice A0_8 l0_8.length c0_8) := (blk_cell BK220.out 8).trans rfl; have hcz18_9 : w17.cell? ⟨gb220, 9, none⟩ = some (.slice A0_9 l0_9.length c0_9) := (blk_cell BK220.out 9).trans rfl; have hcz18_10 : w17.cell? ⟨gb220, 10, none⟩ = some (.int .i64 a0_10) := (blk_cell BK220.out 10).trans rfl; have hfz18_0 := blk_frozen BK220.out 0; have hfz18_1 := blk_frozen BK220.out 1; have hfz18_2 := blk_frozen BK220.out 2; have hfz18_3 := blk_frozen BK220.out 3; have hfz18_4 := blk_frozen BK220.out 4; have hfz18_5 := blk_frozen BK220.out 5; have hfz18_6 := blk_frozen BK220.out 6; have hfz18_7 := blk_frozen BK220.out 7; have hfz18_8 := blk_frozen BK220.out 8; have hfz18_9 := blk_frozen BK220.out 9; have hfz18_10 := blk_frozen BK220.out 10) | ((with_reducible refine gate_callee (f := 9) rfl ?_); refine goesL_ (some 14) rfl rfl Try.func9 (by kernel_rfl) rfl #[.agg #[.slice A0_4 l0_4.length c0_4, .slice A0_5 l0_5.length c0_5, .int .i64 a0_6, .slice A0_7 l0_7.length c0_7, .slice A0_8 l0_8.length c0_8, .slice A0_9 l0_9.length c0_9], .int .i64 t221] rfl (by (try simp only [List.map_toArray, List.map_cons, List.map_nil]); first | done | rfl | (simp only [List.length_drop, List.length_take]; rfl)) ?_; (with_reducible refine (laws_szWork.calls k _ _ l0_4 _ _ l0_5 a0_6 _ _ l0_7 _ _ l0_8 _ _ l0_9 t221 t222 _ ?side1 ?side2 ?side3 ?side4 ?side5 ?side6 ?side7 ?side8 ?side9 ?side10 A8.out).mono ?_); (case side1 => repeat (first | exact (Kd.C_below HR0_4.out HB.out) | (with_reducible refine Kd.C_alloc ?_ _) | (with_reducible refine Kd.C_drewN ?_ _) | (with_reducible refine Kd.C_drew ?_))); (case side2 => exact HC0_4.out); (case side3 => repeat (first | exact (Kd.C_below HR0_5.out HB.out) | (with_reducible refine Kd.C_alloc ?_ _) | (with_reducible refine Kd.C_drewN ?_ _) | (with_reducible refine Kd.C_drew ?_))); (case side4 => exact HC0_5.out); (case side5 => repeat (first | exact (Kd.C_below HR0_7.out HB.out) | (with_reducible refine Kd.C_alloc ?_ _) | (with_reducible refine Kd.C_drewN ?_ _) | (with_reducible refine Kd.C_drew ?_))); (case side6 => exact HC0_7.out); (case side7 => repeat (first | exact (Kd.C_below HR0_8.out HB.out) | (with_reducible refine Kd.C_alloc ?_ _) | (with_reducible refine Kd.C_drewN ?_ _) | (with_reducible refine Kd.C_drew ?_))); (case side8 => exact HC0_8.out); (case side9 => repeat (first | exact (Kd.C_below HR0_9.out HB.out) | (with_reducible refine Kd.C_alloc ?_ _) | (with_reducible refine Kd.C_drewN ?_ _) | (with_reducible refine Kd.C_drew ?_))); (case side10 => exact HC0_9.out); rintro e w19 ⟨rfl, hb⟩; refine ⟨_, rfl, ?_⟩; have n0_ := Aside0.mk (blk_below (g := gb220) (o := .cells #[.int .i64 a0_0, .int .i64 a0_1, .int .i64 a0_2, .slice A0_3 l0_3.length c0_3, .slice A0_4 l0_4.length c0_4, .slice A0_5 l0_5.length c0_5, .int .i64 a0_6, .slice A0_7 l0_7.length c0_7, .slice A0_8 l0_8.length c0_8, .slice A0_9 l0_9.length c0_9, .int .i64 a0_10] 72 (0, 0)) (by (with_reducible repeat (first | refine blk_drewN ?_ _ | refine blk_drew ?_ | refine blk_alloc ?_ _)); exact BK220.out) hb); have n1_ := Aside0.mk (below_step (by repeat (first | (with_reducible first | exact HB.out | apply below_alloc | apply pw_below_drewN | apply below_drew1 | refine below_set ?_ GE220.out) | exact HB.out)) hb); clear BK220; clear HB; have BK220 := n0_; have HB := n1_; clear n0_ n1_; (try clear hb); (try clear hb2); (try clear hk); (try clear hi)))
   go_ret
   exact ⟨by first | rfl | (simp [errW_none, errW_some] <;> rfl) | (simp [*, errW_none, errW_some] <;> rfl), by repeat (first | (with_reducible first | exact HB.out | apply below_alloc | apply pw_below_drewN | apply below_drew1 | refine below_set ?_ GE220.out) | exact HB.out)⟩
def laws_szReader.f (k : Nat) (a0_0 : Int) (a0_1 : Int) (a0_2 : Int) (a0_3 : Int) (l0_4 : List (S183)) (a1 : Int) : Option (Int) := (laws_szMeta.f k a0_1 a0_2 a0_3 l0_4 a1).bind fun t224 => (if t224 < 0 then (some (-1)) else (some t224))
theorem laws_szReader.calls (k : Nat) (a0_0 : Int) (a0_1 : Int) (a0_2 : Int) (a0_3 : Int) (A0_4 : Option Addr) (c0_4 : Nat) (l0_4 : List (S183)) (a1 : Int) (r : Int) (w : World) (hr0_4 : Kd.C k183 w A0_4 l0_4.length l0_4) (hc0_4 : l0_4.length ≤ c0_4) (h : laws_szReader.f k a0_0 a0_1 a0_2 a0_3 l0_4 a1 = some r) :
  Calls Try.prog 131 #[.agg #[.int .i64 a0_0, .int .i64 a0_1, .int .i64 a0_2, .int .i64 a0_3, .slice A0_4 l0_4.length c0_4], .int .i64 a1] w fun e w' => e = .returned (.int .i64 r) ∧ Below w.heap.size w w' := by
 have hu154 := Try.underlying154
 have hu69 := Try.underlying69
 have HR0_4 := Aside0.mk hr0_4
 have HC0_4 := Aside0.mk hc0_4
 clear hr0_4 hc0_4
 have HB := Aside0.mk (Below.refl w.heap.size w)
 have H : ((laws_szMeta.f k a0_1 a0_2 a0_3 l0_4 a1).bind fun t224 => (if t224 < 0 then (some (-1)) else (some t224))) = some r := h
 clear h
 replace H := Option.bind_eq_some_iff.mp H
 obtain ⟨t224, A30, H⟩ := H
 replace H : (if t224 < 0 then (some (-1)) else (some t224)) = some r := H
 have A3 := Aside0.mk A30
 clear A30
 by_cases c4 : t224 < 0
 ·rw [if_pos c4] at H
  have c4b0 : decide (t224 < 0) = true := decide_eq_true c4
  clear c4
  obtain rfl := Option.some.inj H
  go_enter Try.func131, Try.ntmps131
  go_wp2_with (first | ((with_reducible refine gate_dst (N := 2) rfl ?_); refine box_event ?hg (N := 2) ?hd (cs := #[.int .i64 a0_0, .int .i64 a0_1, .int .i64 a0_2, .int .i64 a0_3, .slice A0_4 l0_4.length c0_4]) (t := 154) ?hr ?_; (case hd => rfl); (case hg => rfl); (case hr => first | (go_simp; done) | (go_simp; rfl)); intro gb223 hg w5 hbox hb; have n0_ := Aside0.mk (below_step (by repeat (first | (with_reducible first | exact HB.out | apply below_alloc | apply pw_below_drewN | apply below_drew1) | exact HB.out)) hb); have n1_ := Aside0.mk (hbox); have n2_ := Aside0.mk ((by rw [hg]; exact (below_size (by repeat (first | (with_reducible first | exact HB.out | apply below_alloc | apply pw_below_drewN | apply below_drew1) | exact HB.out))) : w.heap.size ≤ gb223)); have n3_ := Aside0.mk ((by rw [hg]; exact (below_size (by repeat (first | (with_reducible first | exact HB.out | apply below_alloc | apply pw_below_drewN | apply below_drew1) | exact HB.out))) : w.heap.size ≤ gb223)); clear HB; have HB := n0_; have BK223 := n1_; have GW223 := n2_; have GE223 := n3_; clear n0_ n1_ n2_ n3_; clear hb hbox hg; have hcz6_0 : w5.cell? ⟨gb223, 0, none⟩ = some (.int .i64 a0_0) := (blk_cell BK223.out 0).trans rfl; have hcz6_1 : w5.cell? ⟨gb223, 1, none⟩ = some (.int .i64 a0_1) := (blk_cell BK223.out 1).trans rfl; have hcz6_2 : w5.cell? ⟨gb223, 2, none⟩ = some (.int .i64 a0_2) := (blk_cell BK223.out 2).trans rfl; have hcz6_3 : w5.cell? ⟨gb223, 3, none⟩ = some (.int .i64 a0_3) := (blk_cell BK223.out 3).trans rfl; have hcz6_4 : w5.cell? ⟨gb223, 4, none⟩ = some (.slice A0_4 l0_4.length c0_4) := (blk_cell BK223.out 4).trans rfl; have hfz6_0 := blk_frozen BK223.out 0; have hfz6_1 := blk_frozen BK223.out 1; have hfz6_2 := blk_frozen BK223.out 2; have hfz6_3 := blk_frozen BK223.out 3; have hfz6_4 := blk_frozen BK223.out 4) | ((with_reducible refine gate_callee (f := 76) rfl ?_); refine goesL_ (some 8) rfl rfl Try.func76 (by kernel_rfl) rfl #[.agg #[.int .i64 a0_1, .int .i64 a0_2, .int .i64 a0_3, .slice A0_4 l0_4.length c0_4], .int .i64 a1] rfl (by (try simp only [List.map_toArray, List.map_cons, List.map_nil]); first | done | rfl | (simp only [List.length_drop, List.length_take]; rfl)) ?_; (with_reducible refine (laws_szMeta.calls k a0_1 a0_2 a0_3 _ _ l0_4 a1 t224 _ ?side1 ?side2 A3.out).mono ?_); (case side1 => repeat (first | exact (Kd.C_below HR0_4.out HB.out) | (with_reducible refine Kd.C_alloc ?_ _) | (with_reducible refine Kd.C_drewN ?_ _) | (with_reducible refine Kd.C_drew ?_))); (case side2 => exact HC0_4.out); rintro e w7 ⟨rfl, hb⟩; refine ⟨_, rfl, ?_⟩; have n0_ := Aside0.mk (blk_below (g := gb223) (o := .cells #[.int .i64 a0_0, .int .i64 a0_1, .int .i64 a0_2, .int .i64 a0_3, .slice A0_4 l0_4.length c0_4] 154 (0, 0)) (by (with_reducible repeat (first | refine blk_drewN ?_ _ | refine blk_drew ?_ | refine blk_alloc ?_ _)); exact BK223.out) hb); have n1_ := Aside0.mk (below_step (by repeat (first | (with_reducible first | exact HB.out | apply below_alloc | apply pw_below_drewN | apply below_drew1 | refine below_set ?_ GE223.out) | exact HB.out)) hb); clear BK223; clear HB; have BK223 := n0_; have HB := n1_; clear n0_ n1_; (try clear hb); (try clear hb2); (try clear hk); (try clear hi)))
  go_ret
  exact ⟨by first | rfl | (simp [errW_none, errW_some] <;> rfl) | (simp [*, errW_none, errW_some] <;> rfl), by repeat (first | (with_reducible first | exact HB.out | apply below_alloc | apply pw_below_drewN | apply below_drew1 | refine below_set ?_ GE223.out) | exact HB.out)⟩
 ·rw [if_neg c4] at H
  have c4b0 : decide (t224 < 0) = false := decide_eq_false c4
  clear c4
  obtain rfl := Option.some.inj H
  go_enter Try.func131, Try.ntmps131
  go_wp2_with (first | ((with_reducible refine gate_dst (N := 2) rfl ?_); refine box_event ?hg (N := 2) ?hd (cs := #[.int .i64 a0_0, .int .i64 a0_1, .int .i64 a0_2, .int .i64 a0_3, .slice A0_4 l0_4.length c0_4]) (t := 154) ?hr ?_; (case hd => rfl); (case hg => rfl); (case hr => first | (go_simp; done) | (go_simp; rfl)); intro gb223 hg w8 hbox hb; have n0_ := Aside0.mk (below_step (by repeat (first | (with_reducible first | exact HB.out | apply below_alloc | apply pw_below_drewN | apply below_drew1) | exact HB.out)) hb); have n1_ := Aside0.mk (hbox); have n2_ := Aside0.mk ((by rw [hg]; exact (below_size (by repeat (first | (with_reducible first | exact HB.out | apply below_alloc | apply pw_below_drewN | apply below_drew1) | exact HB.out))) : w.heap.size ≤ gb223)); have n3_ := Aside0.mk ((by rw [hg]; exact (below_size (by repeat (first | (with_reducible first | exact HB.out | apply below_alloc | apply pw_below_drewN | apply below_drew1) | exact HB.out))) : w.heap.size ≤ gb223)); clear HB; have HB := n0_; have BK223 := n1_; have GW223 := n2_; have GE223 := n3_; clear n0_ n1_ n2_ n3_; clear hb hbox hg; have hcz9_0 : w8.cell? ⟨gb223, 0, none⟩ = some (.int .i64 a0_0) := (blk_cell BK223.out 0).trans rfl; have hcz9_1 : w8.cell? ⟨gb223, 1, none⟩ = some (.int .i64 a0_1) := (blk_cell BK223.out 1).trans rfl; have hcz9_2 : w8.cell? ⟨gb223, 2, none⟩ = some (.int .i64 a0_2) := (blk_cell BK223.out 2).trans rfl; have hcz9_3 : w8.cell? ⟨gb223, 3, none⟩ = some (.int .i64 a0_3) := (blk_cell BK223.out 3).trans rfl; have hcz9_4 : w8.cell? ⟨gb223, 4, none⟩ = some (.slice A0_4 l0_4.length c0_4) := (blk_cell BK223.out 4).trans rfl; have hfz9_0 := blk_frozen BK223.out 0; have hfz9_1 := blk_frozen BK223.out 1; have hfz9_2 := blk_frozen BK223.out 2; have hfz9_3 := blk_frozen BK223.out 3; have hfz9_4 := blk_frozen BK223.out 4) | ((with_reducible refine gate_callee (f := 76) rfl ?_); refine goesL_ (some 8) rfl rfl Try.func76 (by kernel_rfl) rfl #[.agg #[.int .i64 a0_1, .int .i64 a0_2, .int .i64 a0_3, .slice A0_4 l0_4.length c0_4], .int .i64 a1] rfl (by (try simp only [List.map_toArray, List.map_cons, List.map_nil]); first | done | rfl | (simp only [List.length_drop, List.length_take]; rfl)) ?_; (with_reducible refine (laws_szMeta.calls k a0_1 a0_2 a0_3 _ _ l0_4 a1 t224 _ ?side1 ?side2 A3.out).mono ?_); (case side1 => repeat (first | exact (Kd.C_below HR0_4.out HB.out) | (with_reducible refine Kd.C_alloc ?_ _) | (with_reducible refine Kd.C_drewN ?_ _) | (with_reducible refine Kd.C_drew ?_))); (case side2 => exact HC0_4.out); rintro e w10 ⟨rfl, hb⟩; refine ⟨_, rfl, ?_⟩; have n0_ := Aside0.mk (blk_below (g := gb223) (o := .cells #[.int .i64 a0_0, .int .i64 a0_1, .int .i64 a0_2, .int .i64 a0_3, .slice A0_4 l0_4.length c0_4] 154 (0, 0)) (by (with_reducible repeat (first | refine blk_drewN ?_ _ | refine blk_drew ?_ | refine blk_alloc ?_ _)); exact BK223.out) hb); have n1_ := Aside0.mk (below_step (by repeat (first | (with_reducible first | exact HB.out | apply below_alloc | apply pw_below_drewN | apply below_drew1 | refine below_set ?_ GE223.out) | exact HB.out)) hb); clear BK223; clear HB; have BK223 := n0_; have HB := n1_; clear n0_ n1_; (try clear hb); (try clear hb2); (try clear hk); (try clear hi)))
  go_ret
  exact ⟨by first | rfl | (simp [errW_none, errW_some] <;> rfl) | (simp [*, errW_none, errW_some] <;> rfl), by repeat (first | (with_reducible first | exact HB.out | apply below_alloc | apply pw_below_drewN | apply below_drew1 | refine below_set ?_ GE223.out) | exact HB.out)⟩
def laws_szReaderS.l0 : Nat → List (S154) → Int → Int → Option (Int)
 | 0, _, _, _ => none
 | k + 1, x0, x1, x5 => if x5 < (x0.length : Int) then (if 0 ≤ x5 then ((laws_szReader.f k ((rd_T154 x0 x5).f0) ((rd_T154 x0 x5).f1.f0) ((rd_T154 x0 x5).f1.f1) ((rd_T154 x0 x5).f1.f2) ((rd_T154 x0 x5).f1.f3) x1).bind fun t226 => (if t226 < 0 then (some (-1)) else (laws_szReaderS.l0 k x0 t226 (wrap64 (x5 + 1))))) else (none)) else (some x1)
def laws_szReaderS.f (k : Nat) (l0 : List (S154)) (a1 : Int) : Option (Int) := if (wrap64 (a1 - (l0.length : Int))) < 0 then (some (-1)) else (laws_szReaderS.l0 k l0 (wrap64 (a1 - (l0.length : Int))) 0)
theorem laws_szReaderS.calls (k : Nat) (A0 : Option Addr) (c0 : Nat) (l0 : List (S154)) (a1 : Int) (r : Int) (w : World) (hr0 : Kd.C k154 w A0 l0.length l0) (hc0 : l0.length ≤ c0) (h : laws_szReaderS.f k l0 a1 = some r) :
  Calls Try.prog 77 #[.slice A0 l0.length c0, .int .i64 a1] w fun e w' => e = .returned (.int .i64 r) ∧ Below w.heap.size w w' := by
 have hu154 := Try.underlying154
 have HR0 := Aside0.mk hr0
 have HC0 := Aside0.mk hc0
 clear hr0 hc0
 have HB := Aside0.mk (Below.refl w.heap.size w)
 have H : (if (wrap64 (a1 - (l0.length : Int))) < 0 then (some (-1)) else (laws_szReaderS.l0 k l0 (wrap64 (a1 - (l0.length : Int))) 0)) = some r := h
 clear h
 by_cases c3 : (wrap64 (a1 - (l0.length : Int))) < 0
 ·rw [if_pos c3] at H
  have c3b0 : decide ((wrap64 (a1 - (l0.length : Int))) < 0) = true := decide_eq_true c3
  clear c3
  obtain rfl := Option.some.inj H
  go_enter Try.func77, Try.ntmps77
  go_wp2
  go_ret
  exact ⟨by first | rfl | (simp [errW_none, errW_some] <;> rfl) | (simp [*, errW_none, errW_some] <;> rfl), by repeat (first | (with_reducible first | exact HB.out | apply below_alloc | apply pw_below_drewN | apply below_drew1) | exact HB.out)⟩
 ·rw [if_neg c3] at H
  have c3b0 : decide ((wrap64 (a1 - (l0.length : Int))) < 0) = false := decide_eq_false c3
  clear c3
  have H' := Aside0.mk H
  clear H
  go_enter Try.func77, Try.ntmps77
  go_wp2
  go_loopg [1, 5] k (fun kq v1 v5 w' => ∃ (x1_1 : Int) (x5_1 : Int), v1 = .int .i64 x1_1 ∧ v5 = .int .i64 x5_1 ∧ Aside0 (laws_szReaderS.l0 kq l0 x1_1 x5_1 = some r) ∧ Aside0 (kq ≤ k) ∧ Aside0 (Below w.heap.size w w'))
  case atStart => exact ⟨(wrap64 (a1 - (l0.length : Int))), (0), (by first | rfl | (simp; done) | (simp [*]; done)), (by first | rfl | (simp; done) | (simp [*]; done)), H', ⟨Nat.le_refl _⟩, ⟨by repeat (first | (with_reducible first | exact HB.out | apply below_alloc | apply pw_below_drewN | apply below_drew1) | exact HB.out)⟩⟩
  case round =>
   clear H'
   try clear c3
   try clear c3b0
   obtain ⟨x1_1, x5_1, rfl, rfl, HA, HK1, HB⟩ := hrel
   cases gk with
   | zero => exact absurd HA.out (by simp [laws_szReaderS.l0])
   | succ k1 =>
    have H := HA.out
    clear HA
    simp only [laws_szReaderS.l0] at H
    by_cases c4 : x5_1 < (l0.length : Int)
    ·rw [if_pos c4] at H
     have c4b0 : decide (x5_1 < (l0.length : Int)) = true := decide_eq_true c4
     clear c4
     by_cases c5 : 0 ≤ x5_1
     ·rw [if_pos c5] at H
      have c5b0 : decide (0 ≤ x5_1) = true := decide_eq_true c5
      clear c5
      replace H := Option.bind_eq_some_iff.mp H
      obtain ⟨t226, A60, H⟩ := H
      replace H : (if t226 < 0 then (some (-1)) else (laws_szReaderS.l0 k1 l0 t226 (wrap64 (x5_1 + 1)))) = some r := H
      have A6 := Aside0.mk A60
      clear A60
      by_cases c7 : t226 < 0
      ·rw [if_pos c7] at H
       have c7b0 : decide (t226 < 0) = true := decide_eq_true c7
       clear c7
       obtain rfl := Option.some.inj H
       have p225 : 0 ≤ (x5_1 : Int) := of_decide_eq_true (by with_reducible assumption)
       have q225 : x5_1 < (l0.length : Int) := of_decide_eq_true (by with_reducible assumption)
       obtain ⟨ad225, A225_4, c225_4, e225, hx225_0, hx225_1, hx225_2, hx225_3, hx225_4, hl225_4, hi225_4⟩ := at_T154 HR0.out x5_1 p225 q225
       cases e225
       replace hx225_0 := (HB.out.cell (World.block_lt_of_cell? w _ hx225_0)).trans hx225_0
       replace hx225_1 := (HB.out.cell (World.block_lt_of_cell? w _ hx225_1)).trans hx225_1
       replace hx225_2 := (HB.out.cell (World.block_lt_of_cell? w _ hx225_2)).trans hx225_2
       replace hx225_3 := (HB.out.cell (World.block_lt_of_cell? w _ hx225_3)).trans hx225_3
       replace hx225_4 := (HB.out.cell (World.block_lt_of_cell? w _ hx225_4)).trans hx225_4
       have HR225_4 := Aside0.mk hi225_4
       have HC225_4 := Aside0.mk hl225_4
       clear hi225_4 hl225_4
       replace p225 := eq_true p225
       replace q225 := eq_true q225
       go_wp2_with (first | ((with_reducible refine gate_callee (f := 131) rfl ?_); refine goesL_ (some 23) rfl rfl Try.func131 (by kernel_rfl) rfl #[.agg #[.int .i64 ((rd_T154 l0 x5_1).f0), .int .i64 ((rd_T154 l0 x5_1).f1.f0), .int .i64 ((rd_T154 l0 x5_1).f1.f1), .int .i64 ((rd_T154 l0 x5_1).f1.f2), .slice A225_4 ((rd_T154 l0 x5_1).f1.f3).length c225_4], .int .i64 x1_1] rfl (by (try simp only [List.map_toArray, List.map_cons, List.map_nil]); first | done | rfl | (simp only [List.length_drop, List.length_take]; rfl)) ?_; (with_reducible refine (laws_szReader.calls k1 ((rd_T154 l0 x5_1).f0) ((rd_T154 l0 x5_1).f1.f0) ((rd_T154 l0 x5_1).f1.f1) ((rd_T154 l0 x5_1).f1.f2) _ _ ((rd_T154 l0 x5_1).f1.f3) x1_1 t226 _ ?side1 ?side2 A6.out).mono ?_); (case side1 => repeat (first | exact (Kd.C_below HR225_4.out HB.out) | (with_reducible refine Kd.C_alloc ?_ _) | (with_reducible refine Kd.C_drewN ?_ _) | (with_reducible refine Kd.C_drew ?_))); (case side2 => exact HC225_4.out); rintro e w8 ⟨rfl, hb⟩; refine ⟨_, rfl, ?_⟩; have n0_ := Aside0.mk (below_step (by repeat (first | (with_reducible first | exact HB.out | apply below_alloc | apply pw_below_drewN | apply below_drew1) | exact HB.out)) hb); clear HB; have HB := n0_; clear n0_; (try clear hb); (try clear hb2); (try clear hk); (try clear hi)))
       go_ret
       exact ⟨by first | rfl | (simp [errW_none, errW_some] <;> rfl) | (simp [*, errW_none, errW_some] <;> rfl), by repeat (first | (with_reducible first | exact HB.out | apply below_alloc | apply pw_below_drewN | apply below_drew1) | exact HB.out)⟩
      ·rw [if_neg c7] at H
       have c7b0 : decide (t226 < 0) = false := decide_eq_false c7
       clear c7
       have H' := Aside0.mk H
       clear H
       have p225 : 0 ≤ (x5_1 : Int) := of_decide_eq_true (by with_reducible assumption)
       have q225 : x5_1 < (l0.length : Int) := of_decide_eq_true (by with_reducible assumption)
       obtain ⟨ad225, A225_4, c225_4, e225, hx225_0, hx225_1, hx225_2, hx225_3, hx225_4, hl225_4, hi225_4⟩ := at_T154 HR0.out x5_1 p225 q225
       cases e225
       replace hx225_0 := (HB.out.cell (World.block_lt_of_cell? w _ hx225_0)).trans hx225_0
       replace hx225_1 := (HB.out.cell (World.block_lt_of_cell? w _ hx225_1)).trans hx225_1
       replace hx225_2 := (HB.out.cell (World.block_lt_of_cell? w _ hx225_2)).trans hx225_2
       replace hx225_3 := (HB.out.cell (World.block_lt_of_cell? w _ hx225_3)).trans hx225_3
       replace hx225_4 := (HB.out.cell (World.block_lt_of_cell? w _ hx225_4)).trans hx225_4
       have HR225_4 := Aside0.mk hi225_4
       have HC225_4 := Aside0.mk hl225_4
       clear hi225_4 hl225_4
       replace p225 := eq_true p225
       replace q225 := eq_true q225
       go_wp2_with (first | ((with_reducible refine gate_callee (f := 131) rfl ?_); refine goesL_ (some 23) rfl rfl Try.func131 (by kernel_rfl) rfl #[.agg #[.int .i64 ((rd_T154 l0 x5_1).f0), .int .i64 ((rd_T154 l0 x5_1).f1.f0), .int .i64 ((rd_T154 l0 x5_1).f1.f1), .int .i64 ((rd_T154 l0 x5_1).f1.f2), .slice A225_4 ((rd_T154 l0 x5_1).f1.f3).length c225_4], .int .i64 x1_1] rfl (by (try simp only [List.map_toArray, List.map_cons, List.map_nil]); first | done | rfl | (simp only [List.length_drop, List.length_take]; rfl)) ?_; (with_reducible refine (laws_szReader.calls k1 ((rd_T154 l0 x5_1).f0) ((rd_T154 l0 x5_1).f1.f0) ((rd_T154 l0 x5_1).f1.f1) ((rd_T154 l0 x5_1).f1.f2) _ _ ((rd_T154 l0 x5_1).f1.f3) x1_1 t226 _ ?side1 ?side2 A6.out).mono ?_); (case side1 => repeat (first | exact (Kd.C_below HR225_4.out HB.out) | (with_reducible refine Kd.C_alloc ?_ _) | (with_reducible refine Kd.C_drewN ?_ _) | (with_reducible refine Kd.C_drew ?_))); (case side2 => exact HC225_4.out); rintro e w9 ⟨rfl, hb⟩; refine ⟨_, rfl, ?_⟩; have n0_ := Aside0.mk (below_step (by repeat (first | (with_reducible first | exact HB.out | apply below_alloc | apply pw_below_drewN | apply below_drew1) | exact HB.out)) hb); clear HB; have HB := n0_; clear n0_; (try clear hb); (try clear hb2); (try clear hk); (try clear hi)))
       go_roundg k1
       case measure => have := HK1.out; omega
       case rel => exact ⟨(t226), (wrap64 (x5_1 + 1)), (by first | rfl | (simp; done) | (simp [*]; done)), (by first | rfl | (simp; done) | (simp [*]; done)), H', ⟨by have := HK1.out; omega⟩, ⟨by repeat (first | (with_reducible first | exact HB.out | apply below_alloc | apply pw_below_drewN | apply below_drew1) | exact HB.out)⟩⟩
     ·rw [if_neg c5] at H
      exact absurd H (by simp)
    ·rw [if_neg c4] at H
     have c4b0 : decide (x5_1 < (l0.length : Int)) = false := decide_eq_false c4
     clear c4
     obtain rfl := Option.some.inj H
     go_wp2
     go_ret
     exact ⟨by first | rfl | (simp [errW_none, errW_some] <;> rfl) | (simp [*, errW_none, errW_some] <;> rfl), by repeat (first | (with_reducible first | exact HB.out | apply below_alloc | apply pw_below_drewN | apply below_drew1) | exact HB.out)⟩
def szDisk_c_f (k : Nat) (z0 : (List ByteArray × List S140)) (a : Int) : Option Int := laws_szDisk.f k z0.1 z0.2 a
theorem szDisk_c (k : Nat) (z0 : (List ByteArray × List S140)) {cs0 : List Value} (a : Int) (r : Int) (w : World) (h0 : kDiskL.K w z0 cs0) (hf : szDisk_c_f k z0 a = some r) :
  Calls Try.prog 22 #[.agg cs0.toArray, .int .i64 a] w fun e w' => e = .returned (.int .i64 r) ∧ Below w.heap.size w w' := by
 obtain ⟨p_0, q_0⟩ := z0
 obtain ⟨A_00, c_00, A_01, c_01, rfl, m_00, r_00, m_01, r_01⟩ := kDiskL_open h0
 exact laws_szDisk.calls k A_00 c_00 p_0 A_01 c_01 q_0 a r w r_00 m_00 r_01 m_01 hf
def szMeta_c_f (k : Nat) (z0 : S69) (a : Int) : Option Int := laws_szMeta.f k z0.f0 z0.f1 z0.f2 z0.f3 a
theorem szMeta_c (k : Nat) (z0 : S69) {cs0 : List Value} (a : Int) (r : Int) (w : World) (h0 : k69.K w z0 cs0) (hf : szMeta_c_f k z0 a = some r) :
  Calls Try.prog 76 #[.agg cs0.toArray, .int .i64 a] w fun e w' => e = .returned (.int .i64 r) ∧ Below w.heap.size w w' := by
 obtain ⟨x_0, rfl⟩ : ∃ x, x = z0 := ⟨_, rfl⟩
 obtain ⟨A_0, c_0, rfl, m_0, r_0⟩ := k69_open h0
 exact laws_szMeta.calls k x_0.f0 x_0.f1 x_0.f2 A_0 c_0 x_0.f3 a r w r_0 m_0 hf
def szTxn_c_f (k : Nat) (z0 : (S69 × (List ByteArray × List S140 × Int × List Int × List Int × List Int) × Int)) (a : Int) : Option Int := laws_szTxn.f k z0.1.f0 z0.1.f1 z0.1.f2 z0.1.f3 z0.2.1.1 z0.2.1.2.1 z0.2.1.2.2.1 z0.2.1.2.2.2.1 z0.2.1.2.2.2.2.1 z0.2.1.2.2.2.2.2 z0.2.2 a
theorem szTxn_c (k : Nat) (z0 : (S69 × (List ByteArray × List S140 × Int × List Int × List Int × List Int) × Int)) {cs0 : List Value} (a : Int) (r : Int) (w : World) (h0 : kTxnL.K w z0 cs0) (hf : szTxn_c_f k z0 a = some r) :
  Calls Try.prog 37 #[.agg cs0.toArray, .int .i64 a] w fun e w' => e = .returned (.int .i64 r) ∧ Below w.heap.size w w' := by
 obtain ⟨y_0, ⟨l_00, l_01, l_02, l_03, l_04, l_05⟩, n_0⟩ := z0
 obtain ⟨u_00_, _, rfl, g_00, u_01_, u_02_, rfl, g_01, g_02⟩ := h0
 obtain ⟨A_00, c_00, rfl, m_00, r_00⟩ := k69_open g_00
 obtain ⟨A_010, c_010, A_011, c_011, A_013, c_013, A_014, c_014, A_015, c_015, rfl, m_010, r_010, m_011, r_011, m_013, r_013, m_014, r_014, m_015, r_015⟩ := kWorkL_open g_01
 obtain rfl : u_02_ = [.int .i64 n_0] := g_02
 exact laws_szTxn.calls k y_0.f0 y_0.f1 y_0.f2 A_00 c_00 y_0.f3 A_010 c_010 l_00 A_011 c_011 l_01 l_02 A_013 c_013 l_03 A_014 c_014 l_04 A_015 c_015 l_05 n_0 a r w r_00 m_00 r_010 m_010 r_011 m_011 r_013 m_013 r_014 m_014 r_015 m_015 hf
theorem szReaders_c (k : Nat) (z : List S154) (a r : Int) {v : Value} (w : World) (h : (Own.srow 154 k154).K w z [v]) (hf : laws_szReaderS.f k z a = some r) :
  Calls Try.prog 77 #[v, .int .i64 a] w fun e w' => e = .returned (.int .i64 r) ∧ Below w.heap.size w w' := by
 obtain ⟨A, c, hv, m, rr⟩ := h
 injection hv with hv
 subst hv
 exact laws_szReaderS.calls k A c z a r w rr m hf
theorem szStore_1 (k : Nat) (a : ((List ByteArray × List S140) × S69 × List S154 × (S69 × (List ByteArray × List S140 × Int × List Int × List Int × List Int) × Int) × Bool × Bool)) (b : Int) (t1 : Int) {cs : List Value} (w : World) (h : kStoreL.K w a cs) (f1 : szDisk_c_f k a.1 b = some t1)  (n1 : t1 < 0) :
  Calls Try.prog 31 #[.agg cs.toArray, .int .i64 b] w fun e w' => e = .returned (.int .i64 (-1)) ∧ Below w.heap.size w w' := by
 obtain ⟨cD, _, rfl, hD, cM, _, rfl, hM, cR, _, rfl, hR, cT, _, rfl, hT, cB, cF, rfl, hW, hF⟩ := h
 obtain rfl : cB = [.bool a.2.2.2.2.1] := hW
 obtain rfl : cF = [.bool a.2.2.2.2.2] := hF
 have hR2 := hR
 obtain ⟨AR, ccR, rfl, -, -⟩ := hR
 obtain ⟨vR, hvR⟩ : ∃ v, v = Value.slice AR a.2.2.1.length ccR := ⟨_, rfl⟩
 rw [← hvR] at hR2 ⊢
 obtain ⟨cs, hcs⟩ : ∃ cs, cs = cD ++ (cM ++ ([vR] ++ (cT ++ ([.bool a.2.2.2.2.1] ++ [.bool a.2.2.2.2.2])))) := ⟨_, rfl⟩
 rw [← hcs]
 have Ecs := Aside0.mk hcs
 have KD := Aside0.mk hD; have KM := Aside0.mk hM; have KR := Aside0.mk hR2; have KT := Aside0.mk hT
 have LD := Aside0.mk (show cD.length = 2 from kDiskL.K_len hD); have LM := Aside0.mk (show cM.length = 4 from k69.K_len hM); have LT := Aside0.mk (show cT.length = 11 from kTxnL.K_len hT)
 have Lcs := Aside0.mk (show cs.length = 20 from by rw [hcs]; simp only [List.length_append, LD.out, LM.out, LT.out, List.length_cons, List.length_nil])
 clear hD hM hR2 hT hcs hvR
 have F1 := Aside0.mk f1; clear f1
 have d1 : decide (t1 < 0) = true := decide_eq_true n1
 have O := Aside0.mk (Nat.le_refl w.heap.size)
 have E := Aside0.mk (Env.start w)
 go_enter Try.func31, Try.ntmps31
 go_wp2_with (first | ((with_reducible refine gate_dst (N := 6) rfl ?_); replace O := Aside0.mk (And.intro E.out.le O.out); replace E := Aside0.mk (E.out.alloc cs 74 (g := w.heap.size) rfl); refine ev_loadpart rfl 25 _ rfl w.heap.size 0 [] cD (cM ++ ([vR] ++ (cT ++ ([.bool a.2.2.2.2.1] ++ [.bool a.2.2.2.2.2])))) _ rfl (E.out.box 0 rfl) (by rw [Ecs.out]; first | done | rfl | (simp only [aA, aN, aL]; first | done | rfl)) (rfl) Try.underlying25 rfl (by rw [LD.out]; kernel_rfl) ?_))
 ((with_reducible refine (szDisk_c k a.1 b t1 _ (E.out.K KD.out) F1.out).mono ?_); rintro e w1_ ⟨rfl, hb⟩)
 replace E := Aside0.mk (E.out.call hb); clear hb
 go_wp2_with fail
 go_ret
 exact ⟨rfl, E.out.below⟩
theorem szStore_2 (k : Nat) (a : ((List ByteArray × List S140) × S69 × List S154 × (S69 × (List ByteArray × List S140 × Int × List Int × List Int × List Int) × Int) × Bool × Bool)) (b : Int) (t1 t2 : Int) {cs : List Value} (w : World) (h : kStoreL.K w a cs) (f1 : szDisk_c_f k a.1 b = some t1) (f2 : szMeta_c_f k a.2.1 t1 = some t2) (n1 : ¬ t1 < 0) (n2 : t2 < 0) :
  Calls Try.prog 31 #[.agg cs.toArray, .int .i64 b] w fun e w' => e = .returned (.int .i64 (-1)) ∧ Below w.heap.size w w' := by
 obtain ⟨cD, _, rfl, hD, cM, _, rfl, hM, cR, _, rfl, hR, cT, _, rfl, hT, cB, cF, rfl, hW, hF⟩ := h
 obtain rfl : cB = [.bool a.2.2.2.2.1] := hW
 obtain rfl : cF = [.bool a.2.2.2.2.2] := hF
 have hR2 := hR
 obtain ⟨AR, ccR, rfl, -, -⟩ := hR
 obtain ⟨vR, hvR⟩ : ∃ v, v = Value.slice AR a.2.2.1.length ccR := ⟨_, rfl⟩
 rw [← hvR] at hR2 ⊢
 obtain ⟨cs, hcs⟩ : ∃ cs, cs = cD ++ (cM ++ ([vR] ++ (cT ++ ([.bool a.2.2.2.2.1] ++ [.bool a.2.2.2.2.2])))) := ⟨_, rfl⟩
 rw [← hcs]
 have Ecs := Aside0.mk hcs
 have KD := Aside0.mk hD; have KM := Aside0.mk hM; have KR := Aside0.mk hR2; have KT := Aside0.mk hT
 have LD := Aside0.mk (show cD.length = 2 from kDiskL.K_len hD); have LM := Aside0.mk (show cM.length = 4 from k69.K_len hM); have LT := Aside0.mk (show cT.length = 11 from kTxnL.K_len hT)
 have Lcs := Aside0.mk (show cs.length = 20 from by rw [hcs]; simp only [List.length_append, LD.out, LM.out, LT.out, List.length_cons, List.length_nil])
 clear hD hM hR2 hT hcs hvR
 have F1 := Aside0.mk f1; clear f1
 have F2 := Aside0.mk f2; clear f2
 have d1 : decide (t1 < 0) = false := decide_eq_false n1
 have d2 : decide (t2 < 0) = true := decide_eq_true n2
 have O := Aside0.mk (Nat.le_refl w.heap.size)
 have E := Aside0.mk (Env.start w)
 go_enter Try.func31, Try.ntmps31
 go_wp2_with (first | ((with_reducible refine gate_dst (N := 6) rfl ?_); replace O := Aside0.mk (And.intro E.out.le O.out); replace E := Aside0.mk (E.out.alloc cs 74 (g := w.heap.size) rfl); refine ev_loadpart rfl 25 _ rfl w.heap.size 0 [] cD (cM ++ ([vR] ++ (cT ++ ([.bool a.2.2.2.2.1] ++ [.bool a.2.2.2.2.2])))) _ rfl (E.out.box 0 rfl) (by rw [Ecs.out]; first | done | rfl | (simp only [aA, aN, aL]; first | done | rfl)) (rfl) Try.underlying25 rfl (by rw [LD.out]; kernel_rfl) ?_))
 ((with_reducible refine (szDisk_c k a.1 b t1 _ (E.out.K KD.out) F1.out).mono ?_); rintro e w1_ ⟨rfl, hb⟩)
 replace E := Aside0.mk (E.out.call hb); clear hb
 go_wp2_with (first | ((with_reducible refine gate_dst (N := 12) rfl ?_); refine ev_loadpart rfl 69 _ rfl w.heap.size 2 cD cM ([vR] ++ (cT ++ ([.bool a.2.2.2.2.1] ++ [.bool a.2.2.2.2.2]))) _ rfl (E.out.box 0 rfl) (by rw [Ecs.out]; first | done | rfl | (simp only [aA, aN, aL]; first | done | rfl)) (LD.out) Try.underlying69 rfl (by rw [LM.out]; kernel_rfl) ?_))
 ((with_reducible refine (szMeta_c k a.2.1 t1 t2 _ (E.out.K KM.out) F2.out).mono ?_); rintro e w2_ ⟨rfl, hb⟩)
 replace E := Aside0.mk (E.out.call hb); clear hb
 go_wp2_with fail
 go_ret
 exact ⟨rfl, E.out.below⟩
theorem szStore_3 (k : Nat) (a : ((List ByteArray × List S140) × S69 × List S154 × (S69 × (List ByteArray × List S140 × Int × List Int × List Int × List Int) × Int) × Bool × Bool)) (b : Int) (t1 t2 t3 : Int) {cs : List Value} (w : World) (h : kStoreL.K w a cs) (f1 : szDisk_c_f k a.1 b = some t1) (f2 : szMeta_c_f k a.2.1 t1 = some t2) (f3 : laws_szReaderS.f k a.2.2.1 t2 = some t3) (n1 : ¬ t1 < 0) (n2 : ¬ t2 < 0) (n3 : t3 < 0) :
  Calls Try.prog 31 #[.agg cs.toArray, .int .i64 b] w fun e w' => e = .returned (.int .i64 (-1)) ∧ Below w.heap.size w w' := by
 obtain ⟨cD, _, rfl, hD, cM, _, rfl, hM, cR, _, rfl, hR, cT, _, rfl, hT, cB, cF, rfl, hW, hF⟩ := h
 obtain rfl : cB = [.bool a.2.2.2.2.1] := hW
 obtain rfl : cF = [.bool a.2.2.2.2.2] := hF
 have hR2 := hR
 obtain ⟨AR, ccR, rfl, -, -⟩ := hR
 obtain ⟨vR, hvR⟩ : ∃ v, v = Value.slice AR a.2.2.1.length ccR := ⟨_, rfl⟩
 rw [← hvR] at hR2 ⊢
 obtain ⟨cs, hcs⟩ : ∃ cs, cs = cD ++ (cM ++ ([vR] ++ (cT ++ ([.bool a.2.2.2.2.1] ++ [.bool a.2.2.2.2.2])))) := ⟨_, rfl⟩
 rw [← hcs]
 have Ecs := Aside0.mk hcs
 have KD := Aside0.mk hD; have KM := Aside0.mk hM; have KR := Aside0.mk hR2; have KT := Aside0.mk hT
 have LD := Aside0.mk (show cD.length = 2 from kDiskL.K_len hD); have LM := Aside0.mk (show cM.length = 4 from k69.K_len hM); have LT := Aside0.mk (show cT.length = 11 from kTxnL.K_len hT)
 have Lcs := Aside0.mk (show cs.length = 20 from by rw [hcs]; simp only [List.length_append, LD.out, LM.out, LT.out, List.length_cons, List.length_nil])
 clear hD hM hR2 hT hcs hvR
 have F1 := Aside0.mk f1; clear f1
 have F2 := Aside0.mk f2; clear f2
 have F3 := Aside0.mk f3; clear f3
 have d1 : decide (t1 < 0) = false := decide_eq_false n1
 have d2 : decide (t2 < 0) = false := decide_eq_false n2
 have d3 : decide (t3 < 0) = true := decide_eq_true n3
 have O := Aside0.mk (Nat.le_refl w.heap.size)
 have E := Aside0.mk (Env.start w)
 go_enter Try.func31, Try.ntmps31
 go_wp2_with (first | ((with_reducible refine gate_dst (N := 6) rfl ?_); replace O := Aside0.mk (And.intro E.out.le O.out); replace E := Aside0.mk (E.out.alloc cs 74 (g := w.heap.size) rfl); refine ev_loadpart rfl 25 _ rfl w.heap.size 0 [] cD (cM ++ ([vR] ++ (cT ++ ([.bool a.2.2.2.2.1] ++ [.bool a.2.2.2.2.2])))) _ rfl (E.out.box 0 rfl) (by rw [Ecs.out]; first | done | rfl | (simp only [aA, aN, aL]; first | done | rfl)) (rfl) Try.underlying25 rfl (by rw [LD.out]; kernel_rfl) ?_))
 ((with_reducible refine (szDisk_c k a.1 b t1 _ (E.out.K KD.out) F1.out).mono ?_); rintro e w1_ ⟨rfl, hb⟩)
 replace E := Aside0.mk (E.out.call hb); clear hb
 go_wp2_with (first | ((with_reducible refine gate_dst (N := 12) rfl ?_); refine ev_loadpart rfl 69 _ rfl w.heap.size 2 cD cM ([vR] ++ (cT ++ ([.bool a.2.2.2.2.1] ++ [.bool a.2.2.2.2.2]))) _ rfl (E.out.box 0 rfl) (by rw [Ecs.out]; first | done | rfl | (simp only [aA, aN, aL]; first | done | rfl)) (LD.out) Try.underlying69 rfl (by rw [LM.out]; kernel_rfl) ?_))
 ((with_reducible refine (szMeta_c k a.2.1 t1 t2 _ (E.out.K KM.out) F2.out).mono ?_); rintro e w2_ ⟨rfl, hb⟩)
 replace E := Aside0.mk (E.out.call hb); clear hb
 go_wp2_with (first | ((with_reducible refine gate_dst (N := 18) rfl ?_); refine ev_loadcell rfl 70 _ rfl w.heap.size 6 (cD ++ cM) (vR) (cT ++ ([.bool a.2.2.2.2.1] ++ [.bool a.2.2.2.2.2])) rfl (E.out.box 0 rfl) (by rw [Ecs.out]; first | done | rfl | (simp only [aA, aN, aL]; first | done | rfl)) (by simp only [List.length_append, List.length_cons, List.length_nil, LD.out, LM.out]) Try.underlying70 rfl ?_))
 ((with_reducible refine (szReaders_c k a.2.2.1 t2 t3 _ (E.out.K KR.out) F3.out).mono ?_); rintro e w3_ ⟨rfl, hb⟩)
 replace E := Aside0.mk (E.out.call hb); clear hb
 go_wp2_with fail
 go_ret
 exact ⟨rfl, E.out.below⟩
theorem szStore_4 (k : Nat) (a : ((List ByteArray × List S140) × S69 × List S154 × (S69 × (List ByteArray × List S140 × Int × List Int × List Int × List Int) × Int) × Bool × Bool)) (b : Int) (t1 t2 t3 t4 : Int) {cs : List Value} (w : World) (h : kStoreL.K w a cs) (f1 : szDisk_c_f k a.1 b = some t1) (f2 : szMeta_c_f k a.2.1 t1 = some t2) (f3 : laws_szReaderS.f k a.2.2.1 t2 = some t3) (f4 : szTxn_c_f k a.2.2.2.1 t3 = some t4) (n1 : ¬ t1 < 0) (n2 : ¬ t2 < 0) (n3 : ¬ t3 < 0) (n4 : t4 < 0) :
  Calls Try.prog 31 #[.agg cs.toArray, .int .i64 b] w fun e w' => e = .returned (.int .i64 (-1)) ∧ Below w.heap.size w w' := by
 obtain ⟨cD, _, rfl, hD, cM, _, rfl, hM, cR, _, rfl, hR, cT, _, rfl, hT, cB, cF, rfl, hW, hF⟩ := h
 obtain rfl : cB = [.bool a.2.2.2.2.1] := hW
 obtain rfl : cF = [.bool a.2.2.2.2.2] := hF
 have hR2 := hR
 obtain ⟨AR, ccR, rfl, -, -⟩ := hR
 obtain ⟨vR, hvR⟩ : ∃ v, v = Value.slice AR a.2.2.1.length ccR := ⟨_, rfl⟩
 rw [← hvR] at hR2 ⊢
 obtain ⟨cs, hcs⟩ : ∃ cs, cs = cD ++ (cM ++ ([vR] ++ (cT ++ ([.bool a.2.2.2.2.1] ++ [.bool a.2.2.2.2.2])))) := ⟨_, rfl⟩
 rw [← hcs]
 have Ecs := Aside0.mk hcs
 have KD := Aside0.mk hD; have KM := Aside0.mk hM; have KR := Aside0.mk hR2; have KT := Aside0.mk hT
 have LD := Aside0.mk (show cD.length = 2 from kDiskL.K_len hD); have LM := Aside0.mk (show cM.length = 4 from k69.K_len hM); have LT := Aside0.mk (show cT.length = 11 from kTxnL.K_len hT)
 have Lcs := Aside0.mk (show cs.length = 20 from by rw [hcs]; simp only [List.length_append, LD.out, LM.out, LT.out, List.length_cons, List.length_nil])
 clear hD hM hR2 hT hcs hvR
 have F1 := Aside0.mk f1; clear f1
 have F2 := Aside0.mk f2; clear f2
 have F3 := Aside0.mk f3; clear f3
 have F4 := Aside0.mk f4; clear f4
 have d1 : decide (t1 < 0) = false := decide_eq_false n1
 have d2 : decide (t2 < 0) = false := decide_eq_false n2
 have d3 : decide (t3 < 0) = false := decide_eq_false n3
 have d4 : decide (t4 < 0) = true := decide_eq_true n4
 have O := Aside0.mk (Nat.le_refl w.heap.size)
 have E := Aside0.mk (Env.start w)
 go_enter Try.func31, Try.ntmps31
 go_wp2_with (first | ((with_reducible refine gate_dst (N := 6) rfl ?_); replace O := Aside0.mk (And.intro E.out.le O.out); replace E := Aside0.mk (E.out.alloc cs 74 (g := w.heap.size) rfl); refine ev_loadpart rfl 25 _ rfl w.heap.size 0 [] cD (cM ++ ([vR] ++ (cT ++ ([.bool a.2.2.2.2.1] ++ [.bool a.2.2.2.2.2])))) _ rfl (E.out.box 0 rfl) (by rw [Ecs.out]; first | done | rfl | (simp only [aA, aN, aL]; first | done | rfl)) (rfl) Try.underlying25 rfl (by rw [LD.out]; kernel_rfl) ?_))
 ((with_reducible refine (szDisk_c k a.1 b t1 _ (E.out.K KD.out) F1.out).mono ?_); rintro e w1_ ⟨rfl, hb⟩)
 replace E := Aside0.mk (E.out.call hb); clear hb
 go_wp2_with (first | ((with_reducible refine gate_dst (N := 12) rfl ?_); refine ev_loadpart rfl 69 _ rfl w.heap.size 2 cD cM ([vR] ++ (cT ++ ([.bool a.2.2.2.2.1] ++ [.bool a.2.2.2.2.2]))) _ rfl (E.out.box 0 rfl) (by rw [Ecs.out]; first | done | rfl | (simp only [aA, aN, aL]; first | done | rfl)) (LD.out) Try.underlying69 rfl (by rw [LM.out]; kernel_rfl) ?_))
 ((with_reducible refine (szMeta_c k a.2.1 t1 t2 _ (E.out.K KM.out) F2.out).mono ?_); rintro e w2_ ⟨rfl, hb⟩)
 replace E := Aside0.mk (E.out.call hb); clear hb
 go_wp2_with (first | ((with_reducible refine gate_dst (N := 18) rfl ?_); refine ev_loadcell rfl 70 _ rfl w.heap.size 6 (cD ++ cM) (vR) (cT ++ ([.bool a.2.2.2.2.1] ++ [.bool a.2.2.2.2.2])) rfl (E.out.box 0 rfl) (by rw [Ecs.out]; first | done | rfl | (simp only [aA, aN, aL]; first | done | rfl)) (by simp only [List.length_append, List.length_cons, List.length_nil, LD.out, LM.out]) Try.underlying70 rfl ?_))
 ((with_reducible refine (szReaders_c k a.2.2.1 t2 t3 _ (E.out.K KR.out) F3.out).mono ?_); rintro e w3_ ⟨rfl, hb⟩)
 replace E := Aside0.mk (E.out.call hb); clear hb
 go_wp2_with (first | ((with_reducible refine gate_dst (N := 24) rfl ?_); refine ev_loadpart rfl 72 _ rfl w.heap.size 7 (cD ++ (cM ++ [vR])) cT ([.bool a.2.2.2.2.1] ++ [.bool a.2.2.2.2.2]) _ rfl (E.out.box 0 rfl) (by rw [Ecs.out]; first | done | rfl | (simp only [aA, aN, aL]; first | done | rfl)) (by simp only [List.length_append, List.length_cons, List.length_nil, LD.out, LM.out]) Try.underlying72 rfl (by rw [LT.out]; kernel_rfl) ?_))
 ((with_reducible refine (szTxn_c k a.2.2.2.1 t3 t4 _ (E.out.K KT.out) F4.out).mono ?_); rintro e w4_ ⟨rfl, hb⟩)
 replace E := Aside0.mk (E.out.call hb); clear hb
 go_wp2_with fail
 go_ret
 exact ⟨rfl, E.out.below⟩
theorem szStore_5 (k : Nat) (a : ((List ByteArray × List S140) × S69 × List S154 × (S69 × (List ByteArray × List S140 × Int × List Int × List Int × List Int) × Int) × Bool × Bool)) (b : Int) (t1 t2 t3 t4 : Int) {cs : List Value} (w : World) (h : kStoreL.K w a cs) (f1 : szDisk_c_f k a.1 b = some t1) (f2 : szMeta_c_f k a.2.1 t1 = some t2) (f3 : laws_szReaderS.f k a.2.2.1 t2 = some t3) (f4 : szTxn_c_f k a.2.2.2.1 t3 = some t4) (n1 : ¬ t1 < 0) (n2 : ¬ t2 < 0) (n3 : ¬ t3 < 0) (n4 : ¬ t4 < 0) :
  Calls Try.prog 31 #[.agg cs.toArray, .int .i64 b] w fun e w' => e = .returned (.int .i64 t4) ∧ Below w.heap.size w w' := by
 obtain ⟨cD, _, rfl, hD, cM, _, rfl, hM, cR, _, rfl, hR, cT, _, rfl, hT, cB, cF, rfl, hW, hF⟩ := h
 obtain rfl : cB = [.bool a.2.2.2.2.1] := hW
 obtain rfl : cF = [.bool a.2.2.2.2.2] := hF
 have hR2 := hR
 obtain ⟨AR, ccR, rfl, -, -⟩ := hR
 obtain ⟨vR, hvR⟩ : ∃ v, v = Value.slice AR a.2.2.1.length ccR := ⟨_, rfl⟩
 rw [← hvR] at hR2 ⊢
 obtain ⟨cs, hcs⟩ : ∃ cs, cs = cD ++ (cM ++ ([vR] ++ (cT ++ ([.bool a.2.2.2.2.1] ++ [.bool a.2.2.2.2.2])))) := ⟨_, rfl⟩
 rw [← hcs]
 have Ecs := Aside0.mk hcs
 have KD := Aside0.mk hD; have KM := Aside0.mk hM; have KR := Aside0.mk hR2; have KT := Aside0.mk hT
 have LD := Aside0.mk (show cD.length = 2 from kDiskL.K_len hD); have LM := Aside0.mk (show cM.length = 4 from k69.K_len hM); have LT := Aside0.mk (show cT.length = 11 from kTxnL.K_len hT)
 have Lcs := Aside0.mk (show cs.length = 20 from by rw [hcs]; simp only [List.length_append, LD.out, LM.out, LT.out, List.length_cons, List.length_nil])
 clear hD hM hR2 hT hcs hvR
 have F1 := Aside0.mk f1; clear f1
 have F2 := Aside0.mk f2; clear f2
 have F3 := Aside0.mk f3; clear f3
 have F4 := Aside0.mk f4; clear f4
 have d1 : decide (t1 < 0) = false := decide_eq_false n1
 have d2 : decide (t2 < 0) = false := decide_eq_false n2
 have d3 : decide (t3 < 0) = false := decide_eq_false n3
 have d4 : decide (t4 < 0) = false := decide_eq_false n4
 have O := Aside0.mk (Nat.le_refl w.heap.size)
 have E := Aside0.mk (Env.start w)
 go_enter Try.func31, Try.ntmps31
 go_wp2_with (first | ((with_reducible refine gate_dst (N := 6) rfl ?_); replace O := Aside0.mk (And.intro E.out.le O.out); replace E := Aside0.mk (E.out.alloc cs 74 (g := w.heap.size) rfl); refine ev_loadpart rfl 25 _ rfl w.heap.size 0 [] cD (cM ++ ([vR] ++ (cT ++ ([.bool a.2.2.2.2.1] ++ [.bool a.2.2.2.2.2])))) _ rfl (E.out.box 0 rfl) (by rw [Ecs.out]; first | done | rfl | (simp only [aA, aN, aL]; first | done | rfl)) (rfl) Try.underlying25 rfl (by rw [LD.out]; kernel_rfl) ?_))
 ((with_reducible refine (szDisk_c k a.1 b t1 _ (E.out.K KD.out) F1.out).mono ?_); rintro e w1_ ⟨rfl, hb⟩)
 replace E := Aside0.mk (E.out.call hb); clear hb
 go_wp2_with (first | ((with_reducible refine gate_dst (N := 12) rfl ?_); refine ev_loadpart rfl 69 _ rfl w.heap.size 2 cD cM ([vR] ++ (cT ++ ([.bool a.2.2.2.2.1] ++ [.bool a.2.2.2.2.2]))) _ rfl (E.out.box 0 rfl) (by rw [Ecs.out]; first | done | rfl | (simp only [aA, aN, aL]; first | done | rfl)) (LD.out) Try.underlying69 rfl (by rw [LM.out]; kernel_rfl) ?_))
 ((with_reducible refine (szMeta_c k a.2.1 t1 t2 _ (E.out.K KM.out) F2.out).mono ?_); rintro e w2_ ⟨rfl, hb⟩)
 replace E := Aside0.mk (E.out.call hb); clear hb
 go_wp2_with (first | ((with_reducible refine gate_dst (N := 18) rfl ?_); refine ev_loadcell rfl 70 _ rfl w.heap.size 6 (cD ++ cM) (vR) (cT ++ ([.bool a.2.2.2.2.1] ++ [.bool a.2.2.2.2.2])) rfl (E.out.box 0 rfl) (by rw [Ecs.out]; first | done | rfl | (simp only [aA, aN, aL]; first | done | rfl)) (by simp only [List.length_append, List.length_cons, List.length_nil, LD.out, LM.out]) Try.underlying70 rfl ?_))
 ((with_reducible refine (szReaders_c k a.2.2.1 t2 t3 _ (E.out.K KR.out) F3.out).mono ?_); rintro e w3_ ⟨rfl, hb⟩)
 replace E := Aside0.mk (E.out.call hb); clear hb
 go_wp2_with (first | ((with_reducible refine gate_dst (N := 24) rfl ?_); refine ev_loadpart rfl 72 _ rfl w.heap.size 7 (cD ++ (cM ++ [vR])) cT ([.bool a.2.2.2.2.1] ++ [.bool a.2.2.2.2.2]) _ rfl (E.out.box 0 rfl) (by rw [Ecs.out]; first | done | rfl | (simp only [aA, aN, aL]; first | done | rfl)) (by simp only [List.length_append, List.length_cons, List.length_nil, LD.out, LM.out]) Try.underlying72 rfl (by rw [LT.out]; kernel_rfl) ?_))
 ((with_reducible refine (szTxn_c k a.2.2.2.1 t3 t4 _ (E.out.K KT.out) F4.out).mono ?_); rintro e w4_ ⟨rfl, hb⟩)
 replace E := Aside0.mk (E.out.call hb); clear hb
 go_wp2_with fail
 go_ret
 exact ⟨rfl, E.out.below⟩
def szStore_f (k : Nat) (a : ((List ByteArray × List S140) × S69 × List S154 × (S69 × (List ByteArray × List S140 × Int × List Int × List Int × List Int) × Int) × Bool × Bool)) (b : Int) : Option Int := (szDisk_c_f k a.1 b).bind fun t1 => if t1 < 0 then some (-1) else (szMeta_c_f k a.2.1 t1).bind fun t2 => if t2 < 0 then some (-1) else (laws_szReaderS.f k a.2.2.1 t2).bind fun t3 => if t3 < 0 then some (-1) else (szTxn_c_f k a.2.2.2.1 t3).bind fun t4 => if t4 < 0 then some (-1) else some t4
theorem szStore_c (k : Nat) (a : ((List ByteArray × List S140) × S69 × List S154 × (S69 × (List ByteArray × List S140 × Int × List Int × List Int × List Int) × Int) × Bool × Bool)) (b r : Int) {cs : List Value} (w : World) (h : kStoreL.K w a cs) (hf : szStore_f k a b = some r) :
  Calls Try.prog 31 #[.agg cs.toArray, .int .i64 b] w fun e w' => e = .returned (.int .i64 r) ∧ Below w.heap.size w w' := by
 unfold szStore_f at hf
 obtain ⟨t1, f1, hf⟩ := Option.bind_eq_some_iff.1 hf
 by_cases n1 : t1 < 0
 ·rw [if_pos n1] at hf; injection hf with hf; subst hf; exact szStore_1 k a b t1 w h f1 n1
 rw [if_neg n1] at hf
 obtain ⟨t2, f2, hf⟩ := Option.bind_eq_some_iff.1 hf
 by_cases n2 : t2 < 0
 ·rw [if_pos n2] at hf; injection hf with hf; subst hf; exact szStore_2 k a b t1 t2 w h f1 f2 n1 n2
 rw [if_neg n2] at hf
 obtain ⟨t3, f3, hf⟩ := Option.bind_eq_some_iff.1 hf
 by_cases n3 : t3 < 0
 ·rw [if_pos n3] at hf; injection hf with hf; subst hf; exact szStore_3 k a b t1 t2 t3 w h f1 f2 f3 n1 n2 n3
 rw [if_neg n3] at hf
 obtain ⟨t4, f4, hf⟩ := Option.bind_eq_some_iff.1 hf
 by_cases n4 : t4 < 0
 ·rw [if_pos n4] at hf; injection hf with hf; subst hf; exact szStore_4 k a b t1 t2 t3 t4 w h f1 f2 f3 f4 n1 n2 n3 n4
 rw [if_neg n4] at hf
 injection hf with hf
 subst hf
 exact szStore_5 k a b t1 t2 t3 t4 w h f1 f2 f3 f4 n1 n2 n3 n4
def MarkStore (k : Nat) (z : ((List ByteArray × List S135) × S53 × List S118 × (S53 × (List ByteArray × List S135 × Int × List Int × List Int × List Int) × Int) × Bool × Bool)) (a : Int) (z' : ((List ByteArray × List S135) × S53 × List S118 × (S53 × (List ByteArray × List S135 × Int × List Int × List Int × List Int) × Int) × Bool × Bool)) (r : Int) : Prop := ∃ u1 u2 u3 u4 t1 t2 t3 : Int, laws_markDisk.f k z.1.1 z.1.2 a = some (u1, z'.1.1, z'.1.2) ∧ markF.l0 k z.2.1.f3 u1 0 = some (u2, z'.2.1.f3) ∧ markR.l0 k z.2.2.1 u2 0 = some (u3, z'.2.2.1) ∧ markF.l0 k z.2.2.2.1.1.f3 u3 0 = some (u4, z'.2.2.2.1.1.f3) ∧ laws_markDisk.f k z.2.2.2.1.2.1.1 z.2.2.2.1.2.1.2.1 u4 = some (t1, z'.2.2.2.1.2.1.1, z'.2.2.2.1.2.1.2.1) ∧ laws_markIntS.f k z.2.2.2.1.2.1.2.2.2.1 t1 = some (t2, z'.2.2.2.1.2.1.2.2.2.1) ∧ laws_markIntS.f k z.2.2.2.1.2.1.2.2.2.2.1 t2 = some (t3, z'.2.2.2.1.2.1.2.2.2.2.1) ∧ laws_markIntS.f k z.2.2.2.1.2.1.2.2.2.2.2 t3 = some (r, z'.2.2.2.1.2.1.2.2.2.2.2) ∧
 z' = ((z'.1.1, z'.1.2), (⟨z.2.1.f0, z.2.1.f1, z.2.1.f2, z'.2.1.f3⟩ : S53), z'.2.2.1, ((⟨z.2.2.2.1.1.f0, z.2.2.2.1.1.f1, z.2.2.2.1.1.f2, z'.2.2.2.1.1.f3⟩ : S53), (z'.2.2.2.1.2.1.1, z'.2.2.2.1.2.1.2.1, z.2.2.2.1.2.1.2.2.1, z'.2.2.2.1.2.1.2.2.2.1, z'.2.2.2.1.2.1.2.2.2.2.1, z'.2.2.2.1.2.1.2.2.2.2.2), z.2.2.2.1.2.2), z.2.2.2.2.1, z.2.2.2.2.2)
theorem markStore_c (k : Nat) (z : ((List ByteArray × List S135) × S53 × List S118 × (S53 × (List ByteArray × List S135 × Int × List Int × List Int × List Int) × Int) × Bool × Bool)) (a : Int) (z' : ((List ByteArray × List S135) × S53 × List S118 × (S53 × (List ByteArray × List S135 × Int × List Int × List Int × List Int) × Int) × Bool × Bool)) (r : Int) (ok : Nat → Prop) {cs : List Value} (w0 w : World) (hB : Below w0.heap.size w0 w) (hk : ∀ k, ok k → k < w.heap.size) (h : kStore.M w w0.heap.size ok z cs) (hf : MarkStore k z a z' r) :
  Calls Try.prog 29 #[.agg cs.toArray, .int .i64 a] w fun e w' => e = .returned (.int .i64 r) ∧ kStore.M w' w0.heap.size ok z' cs ∧ Below w0.heap.size w0 w' ∧ Kept w w' ok := by
 obtain ⟨u1, u2, u3, u4, t1, t2, t3, f1, f2, f3, f4, g1, g2, g3, g4, e⟩ := hf
 rw [e]
 obtain ⟨⟨l0, l1⟩, x, rs, ⟨y, ⟨j0, j1, j2, j3, j4, j5⟩, n⟩, bw, bf⟩ := z
 exact markStore_o k l0 l1 x rs y j0 j1 j2 j3 j4 j5 n bw bf a u1 u2 u3 u4 t1 t2 t3 r _ _ _ _ _ _ _ _ _ _ ok w0 w hB hk h f1 f2 f3 f4 g1 g2 g3 g4
theorem Env.mbound {w0 W : World} {top : Nat} {fs : List Fct} (E : Env w0 W top fs) (i : Nat) {α : Type} {d : Kd α} {base lo hi : Nat} {ok : Nat → Prop} {x : α} {cs : List Value} (hf : fs[i]? = some (Fct.made d base lo hi ok x cs)) : ∀ k, ok k ∧ Iv lo hi k → k < W.heap.size :=
 fun k hk => Nat.lt_of_lt_of_le hk.2.2 (Nat.le_trans (All.get i E.all hf).1 E.le)
theorem Env.marked {w0 W W' : World} {top : Nat} {fs : List Fct} (E : Env w0 W top fs) (i : Nat) {α : Type} {d : Kd α} {lo hi : Nat} {ok : Nat → Prop} {x x' : α} {cs : List Value} (hf : fs[i]? = some (Fct.made d w0.heap.size lo hi ok x cs)) (M : d.M W' w0.heap.size (fun k => ok k ∧ Iv lo hi k) x' cs) (hB : Below w0.heap.size w0 W') (hK : Kept W W' (fun k => ok k ∧ Iv lo hi k)) (ho : Off2 lo hi fs i) : Env w0 W' top (fs.set i (Fct.made d w0.heap.size lo hi ok x' cs)) :=
 ⟨hB, Nat.le_trans E.le hK.1, E.ge, All.off2 (fun k hk h2 => hK.2 k (Nat.lt_of_lt_of_le hk E.le) (fun h => by have h3 := h.2.1; have h4 := h.2.2; omega)) (Nat.le_refl _) (f' := Fct.made d w0.heap.size lo hi ok x' cs) (show hi ≤ top from (All.get i E.all hf).1) M i E.all ho⟩
theorem eqI_ev1 (l : List Int) (h : l.length ≤ 1048576) : Ev (fun k => laws_eqIntS.f k l l) true := eqI_ev l (by omega)
theorem rd_T183_nat (xs : List S183) (k : Nat) (hk : k < xs.length) : rd_T183 xs (k : Int) = xs[k] := by
 simp [rd_T183, List.getD_eq_getElem?_getD, List.getElem?_eq_getElem hk]
def sumF (l : List S183) : Nat := ((l.map S183.f1).flatten).length
theorem sumF_cons (x : S183) (l : List S183) : sumF (x :: l) = x.f1.length + sumF l := by simp [sumF]
theorem szF_go (l : List S183) (hs : ∀ s ∈ l, s.f1.length ≤ 9223372036854775807) (hl : l.length ≤ 9223372036854775807) : ∀ (n i : Nat) (x : Int), i + n = l.length → 0 ≤ x → x ≤ 1048576 → ∃ r, laws_szFreeS.l0 (n + 1) l x (i : Int) = some r ∧ (r < 0 ∨ (0 ≤ r ∧ r ≤ x ∧ (sumF (l.drop i) : Int) ≤ x)) := by
 intro n
 induction n with
 | zero =>
  intro i x hi h0 h1
  refine ⟨x, ?_, .inr ⟨h0, Int.le_refl _, by rw [List.drop_eq_nil_of_le (by omega)]; simpa [sumF] using h0⟩⟩
  rw [laws_szFreeS.l0, if_neg (by omega)]
 | succ n ih =>
  intro i x hi h0 h1
  have hlt : i < l.length := by omega
  have hsz := hs l[i] (List.getElem_mem hlt)
  have hdr : sumF (l.drop i) = l[i].f1.length + sumF (l.drop (i + 1)) := by rw [List.drop_eq_getElem_cons hlt, sumF_cons]
  rw [laws_szFreeS.l0, if_pos (by omega), if_pos (by omega), rd_T183_nat _ _ hlt, laws_szFree.f, laws_szIntS.f, wrap_in (x := x - _) (by omega) (by omega), wrap_in (x := (i : Int) + 1) (by omega) (by omega)]
  by_cases hneg : x - (l[i].f1.length : Int) < 0
  ·rw [if_pos hneg, Option.bind_some, if_pos (by omega), Option.bind_some, if_pos (by omega)]
   exact ⟨-1, rfl, .inl (by omega)⟩
  ·rw [if_neg hneg, Option.bind_some, if_neg hneg, Option.bind_some, if_neg hneg]
   obtain ⟨r, h2, h3⟩ := ih (i + 1) (x - (l[i].f1.length : Int)) (by omega) (by omega) (by omega)
   refine ⟨r, by rw [show (i : Int) + 1 = ((i + 1 : Nat) : Int) by omega]; exact h2, ?_⟩
   rcases h3 with h3 | ⟨h4, h5, h6⟩
   ·exact .inl h3
   ·exact .inr ⟨h4, by omega, by rw [hdr]; omega⟩
theorem szM_ev (m0 m1 m2 : Int) (l : List S183) (hs : ∀ s ∈ l, s.f1.length ≤ 9223372036854775807) (hl : l.length ≤ 9223372036854775807) (x : Int) (h0 : 0 ≤ x) (h1 : x ≤ 1048576) : ∃ r, Ev (fun k => laws_szMeta.f k m0 m1 m2 l x) r ∧ (r < 0 ∨ (¬ r < 0 ∧ r ≤ x ∧ l.length ≤ 1048576 ∧ sumF l ≤ 1048576)) := by
 by_cases hneg : x - (l.length : Int) < 0
 ·refine ⟨-1, Ev.of (k := 0) (fun k => laws_szMeta.mono _ _ _ _ _ k) ?_, .inl (by omega)⟩
  unfold laws_szMeta.f laws_szFreeS.f
  rw [wrap_in (by omega) (by omega), if_pos hneg, Option.bind_some, if_pos (by omega)]
 ·obtain ⟨r, h2, h3⟩ := szF_go l hs hl l.length 0 (x - (l.length : Int)) (by omega) (by omega) (by omega)
  have hev : ∀ r', (laws_szFreeS.l0 (l.length + 1) l (x - (l.length : Int)) 0 = some r) → (if r < 0 then -1 else r) = r' → Ev (fun k => laws_szMeta.f k m0 m1 m2 l x) r' := fun r' h e => by
   refine Ev.of (k := l.length + 1) (fun k => laws_szMeta.mono _ _ _ _ _ k) ?_
   unfold laws_szMeta.f laws_szFreeS.f
   rw [wrap_in (by omega) (by omega), if_neg hneg, h, Option.bind_some, ← e]
   split <;> rfl
  rcases h3 with h3 | ⟨h4, h5, h6⟩
  ·exact ⟨-1, hev _ h2 (if_pos h3), .inl (by omega)⟩
  ·refine ⟨r, hev _ h2 (if_neg (by omega)), .inr ⟨by omega, by omega, by omega, ?_⟩⟩
   rw [List.drop_zero] at h6
   omega
theorem sumF_mem (l : List S183) (s : S183) (h : s ∈ l) : s.f1.length ≤ sumF l := by
 induction l with
 | nil => cases h
 | cons x l ih =>
  rw [sumF_cons]
  rcases List.mem_cons.1 h with rfl | h
  ·omega
  ·have := ih h; omega
def convF (x : S183) : S122 := ⟨x.f0, x.f1⟩
theorem toF_go (l : List S183) (hl : l.length ≤ 1048576) (hs : ∀ s ∈ l, s.f1.length ≤ 1048576) : ∀ (n i : Nat), i + n = l.length → Ev (fun k => laws_toFreeS.l0 k l ((l.map convF).take i ++ List.replicate n z122) (i : Int)) (l.map convF) := by
 intro n
 induction n with
 | zero =>
  intro i hi
  refine Ev.step (f := fun _ => some (l.map convF)) (fun k => ?_) (Ev.now _)
  rw [laws_toFreeS.l0, if_neg (by omega), List.replicate_zero, List.append_nil, List.take_of_length_le (by rw [List.length_map]; omega)]
 | succ n ih =>
  intro i hi
  have hlt : i < l.length := by omega
  have hlt' : i < (l.map convF).length := by rw [List.length_map]; exact hlt
  have hti : ((l.map convF).take i).length = i := by rw [List.length_take, List.length_map]; omega
  refine Ev.step (f := fun k => (laws_toIntS.f k l[i].f1).bind fun t => laws_toFreeS.l0 k l (((l.map convF).take i ++ z122 :: List.replicate n z122).set i ⟨l[i].f0, t⟩) ((i + 1 : Nat) : Int)) (fun k => ?_) (Ev.bind (toI_ev _ (hs _ (List.getElem_mem hlt))) ?_)
  ·rw [laws_toFreeS.l0, if_pos (by omega), if_pos (by omega), rd_T183_nat _ _ hlt, laws_toFree.f, wrap_in (by omega) (by omega), Int.toNat_natCast, List.replicate_succ]
   cases laws_toIntS.f k l[i].f1 with
   | none => rfl
   | some t =>
    simp only [Option.bind_some]
    rw [if_pos (by simp; omega)]
    rfl
  ·have := set_front ((l.map convF).take i) (List.replicate n z122) z122 (convF l[i])
   rw [hti] at this
   show Ev (fun k => laws_toFreeS.l0 k l (((l.map convF).take i ++ z122 :: List.replicate n z122).set i (convF l[i])) _) _
   rw [this, show convF l[i] = (l.map convF)[i] by rw [List.getElem_map], List.take_append_getElem hlt']
   exact ih (i + 1) (by omega)
theorem toM_ev (m0 m1 m2 : Int) (l : List S183) (hl : l.length ≤ 1048576) (hs : ∀ s ∈ l, s.f1.length ≤ 1048576) : Ev (fun k => laws_toMeta.f k m0 m1 m2 l) (m0, m1, m2, l.map convF) := by
 refine Ev.bind (a := l.map convF) ?_ (Ev.now _)
 have h := toF_go l hl hs l.length 0 (by omega)
 refine Ev.congr (f := fun k => laws_toFreeS.l0 k l ((l.map convF).take 0 ++ List.replicate l.length z122) 0) (fun k => ?_) h
 unfold laws_toFreeS.f
 rw [if_pos (by omega), if_pos (by rw [Int.toNat_natCast]; omega), Int.toNat_natCast, List.take_zero, List.nil_append]
theorem rd_T122_nat (xs : List S122) (k : Nat) (hk : k < xs.length) : rd_T122 xs (k : Int) = xs[k] := by
 simp [rd_T122, List.getD_eq_getElem?_getD, List.getElem?_eq_getElem hk]
theorem eqF_go (l : List S122) (hl : l.length ≤ 1048576) (hs : ∀ s ∈ l, s.f1.length ≤ 1048576) : ∀ (n i : Nat), i + n = l.length → Ev (fun k => laws_eqFreeS.l0 k l l (i : Int)) true := by
 intro n
 induction n with
 | zero =>
  intro i hi
  exact Ev.step (f := fun _ => some true) (fun k => by rw [laws_eqFreeS.l0, if_neg (by omega)]) (Ev.now _)
 | succ n ih =>
  intro i hi
  have hlt : i < l.length := by omega
  refine Ev.step (f := fun k => (laws_eqIntS.f k l[i].f1 l[i].f1).bind fun t => if t = true then laws_eqFreeS.l0 k l l ((i + 1 : Nat) : Int) else none) (fun k => ?_) (Ev.bind (eqI_ev1 _ (hs _ (List.getElem_mem hlt))) ?_)
  ·rw [laws_eqFreeS.l0, if_pos (by omega), if_pos (by omega), if_pos (by omega), rd_T122_nat _ _ hlt, laws_eqFree.f, if_pos rfl, wrap_in (by omega) (by omega)]
   cases laws_eqIntS.f k l[i].f1 l[i].f1 with
   | none => rfl
   | some t => cases t <;> rfl
  ·simp only [if_true]
   exact ih (i + 1) (by omega)
theorem eqM_ev (m0 m1 m2 : Int) (l : List S122) (hl : l.length ≤ 1048576) (hs : ∀ s ∈ l, s.f1.length ≤ 1048576) : Ev (fun k => laws_eqMeta.f k m0 m1 m2 l m0 m1 m2 l) true := by
 have h := eqF_go l hl hs l.length 0 (by omega)
 refine Ev.congr (f := fun k => (laws_eqFreeS.l0 k l l 0).bind fun t => if t = true then some true else none) (fun k => ?_) (Ev.bind h (Ev.now _))
 unfold laws_eqMeta.f laws_eqFreeS.f
 rw [if_pos rfl, if_pos rfl, if_pos rfl, if_pos rfl]
def OKm (l : List S183) : Prop := l.length ≤ 1048576 ∧ ∀ s ∈ l, s.f1.length ≤ 1048576
def INm (l : List S183) : Prop := (∀ s ∈ l, s.f1.length ≤ 9223372036854775807) ∧ l.length ≤ 9223372036854775807
theorem szMx (m0 m1 m2 : Int) (l : List S183) (h : INm l) (x : Int) (h0 : 0 ≤ x) (hx : x ≤ 1048576) : ∃ r, Ev (fun k => laws_szMeta.f k m0 m1 m2 l x) r ∧ (r < 0 ∨ (0 ≤ r ∧ r ≤ x ∧ OKm l)) := by
 obtain ⟨r, e, hr⟩ := szM_ev m0 m1 m2 l h.1 h.2 x h0 hx
 refine ⟨r, e, ?_⟩
 rcases hr with hr | ⟨a, b, c, d⟩
 ·exact .inl hr
 ·exact .inr ⟨by omega, b, c, fun s hs => Nat.le_trans (sumF_mem l s hs) d⟩
theorem rd_T154_nat (xs : List S154) (k : Nat) (hk : k < xs.length) : rd_T154 xs (k : Int) = xs[k] := by
 simp [rd_T154, List.getD_eq_getElem?_getD, List.getElem?_eq_getElem hk]
theorem rd_T118_nat (xs : List S118) (k : Nat) (hk : k < xs.length) : rd_T118 xs (k : Int) = xs[k] := by
 simp [rd_T118, List.getD_eq_getElem?_getD, List.getElem?_eq_getElem hk]
theorem szR_go (l : List S154) (hs : ∀ s ∈ l, INm s.f1.f3) (hl : l.length ≤ 9223372036854775807) : ∀ (n i : Nat) (x : Int), i + n = l.length → 0 ≤ x → x ≤ 1048576 → ∃ r, Ev (fun k => laws_szReaderS.l0 k l x (i : Int)) r ∧ (r < 0 ∨ (0 ≤ r ∧ r ≤ x ∧ ∀ j (hj : j < l.length), i ≤ j → OKm l[j].f1.f3)) := by
 intro n
 induction n with
 | zero =>
  intro i x hi h0 h1
  exact ⟨x, Ev.step (f := fun _ => some x) (fun k => by rw [laws_szReaderS.l0, if_neg (by omega)]) (Ev.now _), .inr ⟨h0, Int.le_refl _, fun j hj hij => by omega⟩⟩
 | succ n ih =>
  intro i x hi h0 h1
  have hlt : i < l.length := by omega
  obtain ⟨a, ea, ha⟩ := szMx l[i].f1.f0 l[i].f1.f1 l[i].f1.f2 l[i].f1.f3 (hs _ (List.getElem_mem hlt)) x h0 h1
  have hst : ∀ k, laws_szReaderS.l0 (k + 1) l x (i : Int) = ((laws_szMeta.f k l[i].f1.f0 l[i].f1.f1 l[i].f1.f2 l[i].f1.f3 x).bind fun t => if t < 0 then some (-1) else some t).bind fun t => if t < 0 then some (-1) else laws_szReaderS.l0 k l t ((i + 1 : Nat) : Int) := fun k => by
   rw [laws_szReaderS.l0, if_pos (by omega), if_pos (by omega), rd_T154_nat _ _ hlt, wrap_in (by omega) (by omega)]
   rfl
  rcases ha with ha | ⟨a0, a1, a2⟩
  ·exact ⟨-1, Ev.step hst (Ev.bind (a := -1) (Ev.bind ea (by simp only [if_pos ha]; exact Ev.now _)) (by simp only [if_pos (show (-1 : Int) < 0 by omega)]; exact Ev.now _)), .inl (by omega)⟩
  ·obtain ⟨r, er, hr⟩ := ih (i + 1) a (by omega) a0 (by omega)
   refine ⟨r, Ev.step hst (Ev.bind (a := a) (Ev.bind ea (by simp only [if_neg (show ¬ a < 0 by omega)]; exact Ev.now _)) (by simp only [if_neg (show ¬ a < 0 by omega)]; exact er)), ?_⟩
   rcases hr with hr | ⟨r0, r1, r2⟩
   ·exact .inl hr
   ·refine .inr ⟨r0, by omega, fun j hj hij => ?_⟩
    by_cases hji : j = i
    ·subst hji; exact a2
    ·exact r2 j hj (by omega)
theorem szRx (l : List S154) (hs : ∀ s ∈ l, INm s.f1.f3) (hl : l.length ≤ 9223372036854775807) (x : Int) (h0 : 0 ≤ x) (hx : x ≤ 1048576) : ∃ r, Ev (fun k => laws_szReaderS.f k l x) r ∧ (r < 0 ∨ (0 ≤ r ∧ r ≤ x ∧ l.length ≤ 1048576 ∧ ∀ s ∈ l, OKm s.f1.f3)) := by
 by_cases hneg : x - (l.length : Int) < 0
 ·exact ⟨-1, Ev.congr (f := fun _ => some (-1)) (fun k => by unfold laws_szReaderS.f; rw [wrap_in (by omega) (by omega), if_pos hneg]) (Ev.now _), .inl (by omega)⟩
 ·obtain ⟨r, er, hr⟩ := szR_go l hs hl l.length 0 (x - (l.length : Int)) (by omega) (by omega) (by omega)
  refine ⟨r, Ev.congr (fun k => by unfold laws_szReaderS.f; rw [wrap_in (by omega) (by omega), if_neg hneg]; rfl) er, ?_⟩
  rcases hr with hr | ⟨r0, r1, r2⟩
  ·exact .inl hr
  ·refine .inr ⟨r0, by omega, by omega, fun s hs => ?_⟩
   obtain ⟨j, hj, rfl⟩ := List.getElem_of_mem hs
   exact r2 j hj (Nat.zero_le _)
def convR (s : S154) : S118 := ⟨s.f0, ⟨s.f1.f0, s.f1.f1, s.f1.f2, s.f1.f3.map convF⟩⟩
theorem toR_go (l : List S154) (hl : l.length ≤ 1048576) (hs : ∀ s ∈ l, OKm s.f1.f3) : ∀ (n i : Nat), i + n = l.length → Ev (fun k => laws_toReaderS.l0 k l ((l.map convR).take i ++ List.replicate n z118) (i : Int)) (l.map convR) := by
 intro n
 induction n with
 | zero =>
  intro i hi
  refine Ev.step (f := fun _ => some (l.map convR)) (fun k => ?_) (Ev.now _)
  rw [laws_toReaderS.l0, if_neg (by omega), List.replicate_zero, List.append_nil, List.take_of_length_le (by rw [List.length_map]; omega)]
 | succ n ih =>
  intro i hi
  have hlt : i < l.length := by omega
  have hlt' : i < (l.map convR).length := by rw [List.length_map]; exact hlt
  have hti : ((l.map convR).take i).length = i := by rw [List.length_take, List.length_map]; omega
  have hm := hs _ (List.getElem_mem hlt)
  refine Ev.step (f := fun k => (laws_toMeta.f k l[i].f1.f0 l[i].f1.f1 l[i].f1.f2 l[i].f1.f3).bind fun t => laws_toReaderS.l0 k l (((l.map convR).take i ++ z118 :: List.replicate n z118).set i ⟨l[i].f0, ⟨t.1, t.2.1, t.2.2.1, t.2.2.2⟩⟩) ((i + 1 : Nat) : Int)) (fun k => ?_) (Ev.bind (toM_ev _ _ _ _ hm.1 hm.2) ?_)
  ·rw [laws_toReaderS.l0, if_pos (by omega), if_pos (by omega), rd_T154_nat _ _ hlt, laws_toReader.f, wrap_in (by omega) (by omega), Int.toNat_natCast, List.replicate_succ]
   cases laws_toMeta.f k l[i].f1.f0 l[i].f1.f1 l[i].f1.f2 l[i].f1.f3 with
   | none => rfl
   | some t =>
    simp only [Option.bind_some]
    rw [if_pos (by simp; omega)]
    rfl
  ·have := set_front ((l.map convR).take i) (List.replicate n z118) z118 (convR l[i])
   rw [hti] at this
   show Ev (fun k => laws_toReaderS.l0 k l (((l.map convR).take i ++ z118 :: List.replicate n z118).set i (convR l[i])) _) _
   rw [this, show convR l[i] = (l.map convR)[i] by rw [List.getElem_map], List.take_append_getElem hlt']
   exact ih (i + 1) (by omega)
theorem toR_ev (l : List S154) (hl : l.length ≤ 1048576) (hs : ∀ s ∈ l, OKm s.f1.f3) : Ev (fun k => laws_toReaderS.f k l) (l.map convR) := by
 refine Ev.congr (f := fun k => laws_toReaderS.l0 k l ((l.map convR).take 0 ++ List.replicate l.length z118) 0) (fun k => ?_) (toR_go l hl hs l.length 0 (by omega))
 unfold laws_toReaderS.f
 rw [if_pos (by omega), if_pos (by rw [Int.toNat_natCast]; omega), Int.toNat_natCast, List.take_zero, List.nil_append]
def OKn (l : List S122) : Prop := l.length ≤ 1048576 ∧ ∀ s ∈ l, s.f1.length ≤ 1048576
theorem OKn_conv {l : List S183} (h : OKm l) : OKn (l.map convF) := ⟨by rw [List.length_map]; exact h.1, fun s hs => by obtain ⟨y, hy, rfl⟩ := List.mem_map.1 hs; exact h.2 y hy⟩
theorem eqR_go (l : List S118) (hl : l.length ≤ 1048576) (hs : ∀ s ∈ l, OKn s.f1.f3) : ∀ (n i : Nat), i + n = l.length → Ev (fun k => laws_eqReaderS.l0 k l l (i : Int)) true := by
 intro n
 induction n with
 | zero =>
  intro i hi
  exact Ev.step (f := fun _ => some true) (fun k => by rw [laws_eqReaderS.l0, if_neg (by omega)]) (Ev.now _)
 | succ n ih =>
  intro i hi
  have hlt : i < l.length := by omega
  have hm := hs _ (List.getElem_mem hlt)
  refine Ev.step (f := fun k => (laws_eqMeta.f k l[i].f1.f0 l[i].f1.f1 l[i].f1.f2 l[i].f1.f3 l[i].f1.f0 l[i].f1.f1 l[i].f1.f2 l[i].f1.f3).bind fun t => if t = true then laws_eqReaderS.l0 k l l ((i + 1 : Nat) : Int) else none) (fun k => ?_) (Ev.bind (eqM_ev _ _ _ _ hm.1 hm.2) ?_)
  ·rw [laws_eqReaderS.l0, if_pos (by omega), if_pos (by omega), if_pos (by omega), rd_T118_nat _ _ hlt, laws_eqReader.f, if_pos rfl, wrap_in (by omega) (by omega)]
   cases laws_eqMeta.f k l[i].f1.f0 l[i].f1.f1 l[i].f1.f2 l[i].f1.f3 l[i].f1.f0 l[i].f1.f1 l[i].f1.f2 l[i].f1.f3 with
   | none => rfl
   | some t => cases t <;> rfl
  ·simp only [if_true]
   exact ih (i + 1) (by omega)
theorem eqR_ev (l : List S118) (hl : l.length ≤ 1048576) (hs : ∀ s ∈ l, OKn s.f1.f3) : Ev (fun k => laws_eqReaderS.f k l l) true :=
 Ev.congr (fun k => by unfold laws_eqReaderS.f; rw [if_pos rfl]; rfl) (eqR_go l hl hs l.length 0 (by omega))
theorem szTx (a b c : Int) (fr : List S183) (pages : List ByteArray) (late : List S140) (n : Int) (u g f : List Int) (q : Int) (hm : INm fr) (hd : INd pages late) (hu : INi u) (hg : INi g) (hf : INi f) (x : Int) (h0 : 0 ≤ x) (hx : x ≤ 1048576) : ∃ r, Ev (fun k => laws_szTxn.f k a b c fr pages late n u g f q x) r ∧ (r < 0 ∨ (0 ≤ r ∧ r ≤ x ∧ OKm fr ∧ Small pages late ∧ u.length ≤ 1048576 ∧ g.length ≤ 1048576 ∧ f.length ≤ 1048576)) := by
 unfold laws_szTxn.f
 exact sz_step (szMx a b c fr hm x h0 hx) fun y y0 y1 => sz_end (szWx pages late n u g f hd hu hg hf y y0 (by omega))
theorem mhF : ∀ (n i : Nat) (l : List S122) (a : Int), i + n = l.length → 0 < a → a + n * 1048577 < 4000000000000000000 → l.length ≤ 2000000 → (∀ j (h : j < l.length), i ≤ j → l[j].f1.length ≤ 1048576) → ∃ l' c, 0 ≤ c ∧ c ≤ (n : Int) * 1048577 ∧ Ev (fun k => markF.l0 k l a (i : Int)) (a + c, l') ∧ l'.length = l.length ∧ (∀ j, j < i → l'[j]? = l[j]?) ∧ Ev (fun k => laws_heldFreeS.l0 k l' a (i : Int)) (a + c) := by
 intro n
 induction n with
 | zero =>
  intro i l a hi h0 h1 hl hs
  refine ⟨l, 0, by omega, by omega, Ev.step (f := fun _ => some (a + 0, l)) (fun k => ?_) (Ev.now _), rfl, fun _ _ => rfl, Ev.step (f := fun _ => some (a + 0)) (fun k => ?_) (Ev.now _)⟩
  ·rw [markF.l0, if_neg (by omega)]
   simp
  ·rw [laws_heldFreeS.l0, if_neg (by omega)]
   simp
 | succ n ih =>
  intro i l a hi h0 h1 hl hs
  have hlt0 : i < l.length := by omega
  have hsi := hs i hlt0 (Nat.le_refl _)
  obtain ⟨p, g1, g2⟩ := mhI_ev l[i].f1 (a + 1) (by omega) (by omega) (by omega)
  obtain ⟨l', c, c0, c1, e1, e2, e3, e4⟩ := ih (i + 1) (l.set i (⟨a, p⟩ : S122)) (a + 1 + l[i].f1.length) (by rw [List.length_set]; omega) (by omega) (by omega) (by rw [List.length_set]; exact hl) (fun j h hj => by
   rw [List.length_set] at h
   rw [List.getElem_set_ne (by omega)]
   exact hs j h (by omega))
  rw [List.length_set] at e2
  have hlt : i < l'.length := by omega
  have hat : l'[i]? = some (⟨a, p⟩ : S122) := by rw [e3 i (Nat.lt_succ_self i), List.getElem?_set_self (by omega)]
  have hget : l'[i] = (⟨a, p⟩ : S122) := by rw [List.getElem?_eq_getElem hlt] at hat; exact Option.some.inj hat
  have hn : a + 1 + (l[i].f1.length : Int) + c = a + (1 + (l[i].f1.length : Int) + c) := by omega
  rw [hn] at e1 e4
  refine ⟨l', 1 + (l[i].f1.length : Int) + c, by omega, by omega, Ev.step (f := fun k => (laws_markIntS.f k l[i].f1 (a + 1)).bind fun b => markF.l0 k (l.set i (⟨a, b.2⟩ : S122)) b.1 ((i + 1 : Nat) : Int)) (fun k => ?_) (Ev.bind g1 e1), e2, fun j hj => ?_, Ev.step (f := fun k => (laws_heldIntS.f k p (a + 1)).bind fun t => if t < 0 then none else laws_heldFreeS.l0 k l' t ((i + 1 : Nat) : Int)) (fun k => ?_) (Ev.bind g2 (by simp only [if_neg (show ¬ a + 1 + (l[i].f1.length : Int) < 0 by omega)]; exact e4))⟩
  ·rw [markF.l0, if_pos (by omega), if_pos (by omega), rd_T122_nat _ _ hlt0, wrap_in (x := a + 1) (by omega) (by omega), wrap_in (x := (i : Int) + 1) (by omega) (by omega), Int.toNat_natCast]
   rfl
  ·rw [e3 j (by omega), List.getElem?_set_ne (by omega)]
  ·rw [laws_heldFreeS.l0, if_pos (by omega), if_pos (by omega), rd_T122_nat _ _ hlt, hget, if_pos rfl, wrap_in (x := a + 1) (by omega) (by omega), wrap_in (x := (i : Int) + 1) (by omega) (by omega)]
   rfl
theorem mhF_ev (l : List S122) (a : Int) (h0 : 0 < a) (h1 : a + l.length * 1048577 < 4000000000000000000) (hl : OKn l) : ∃ l' c, 0 ≤ c ∧ c ≤ (l.length : Int) * 1048577 ∧ Ev (fun k => markF.l0 k l a 0) (a + c, l') ∧ Ev (fun k => laws_heldFreeS.f k l' a) (a + c) := by
 obtain ⟨l', c, c0, c1, e1, _, _, e4⟩ := mhF l.length 0 l a (by omega) h0 h1 (by have := hl.1; omega) (fun j h _ => hl.2 _ (List.getElem_mem h))
 exact ⟨l', c, c0, c1, e1, e4⟩
theorem mhR : ∀ (n i : Nat) (l : List S118) (a : Int), i + n = l.length → 0 < a → a + n * 1099512676356 < 3000000000000000000 → l.length ≤ 1048576 → (∀ j (h : j < l.length), i ≤ j → OKn l[j].f1.f3) → ∃ l' c, 0 ≤ c ∧ c ≤ (n : Int) * 1099512676356 ∧ Ev (fun k => markR.l0 k l a (i : Int)) (a + c, l') ∧ l'.length = l.length ∧ (∀ j, j < i → l'[j]? = l[j]?) ∧ Ev (fun k => laws_heldReaderS.l0 k l' a (i : Int)) (a + c) := by
 intro n
 induction n with
 | zero =>
  intro i l a hi h0 h1 hl hs
  refine ⟨l, 0, by omega, by omega, Ev.step (f := fun _ => some (a + 0, l)) (fun k => ?_) (Ev.now _), rfl, fun _ _ => rfl, Ev.step (f := fun _ => some (a + 0)) (fun k => ?_) (Ev.now _)⟩
  ·rw [markR.l0, if_neg (by omega)]
   simp
  ·rw [laws_heldReaderS.l0, if_neg (by omega)]
   simp
 | succ n ih =>
  intro i l a hi h0 h1 hl hs
  have hlt0 : i < l.length := by omega
  have hsi := hs i hlt0 (Nat.le_refl _)
  have hsl := hsi.1
  obtain ⟨p, d, d0, d1, g1, g2⟩ := mhF_ev l[i].f1.f3 (a + 4) (by omega) (by omega) hsi
  obtain ⟨x1, hx1⟩ : ∃ x : S118, x = ⟨a, ⟨a + 1, a + 2, a + 3, p⟩⟩ := ⟨_, rfl⟩
  obtain ⟨l', c, c0, c1, e1, e2, e3, e4⟩ := ih (i + 1) (l.set i x1) (a + 4 + d) (by rw [List.length_set]; omega) (by omega) (by omega) (by rw [List.length_set]; exact hl) (fun j h hj => by
   rw [List.length_set] at h
   rw [List.getElem_set_ne (by omega)]
   exact hs j h (by omega))
  rw [List.length_set] at e2
  have hlt : i < l'.length := by omega
  have hat : l'[i]? = some x1 := by rw [e3 i (Nat.lt_succ_self i), List.getElem?_set_self (by omega)]
  have hget : l'[i] = x1 := by rw [List.getElem?_eq_getElem hlt] at hat; exact Option.some.inj hat
  have hn : a + 4 + d + c = a + (4 + d + c) := by omega
  rw [hn] at e1 e4
  have w1 : wrap64 (a + 1) = a + 1 := wrap_in (by omega) (by omega)
  have w2 : wrap64 (a + 1 + 1) = a + 2 := by rw [show a + 1 + 1 = a + 2 by omega]; exact wrap_in (by omega) (by omega)
  have w3 : wrap64 (a + 2 + 1) = a + 3 := by rw [show a + 2 + 1 = a + 3 by omega]; exact wrap_in (by omega) (by omega)
  have w4 : wrap64 (a + 3 + 1) = a + 4 := by rw [show a + 3 + 1 = a + 4 by omega]; exact wrap_in (by omega) (by omega)
  refine ⟨l', 4 + d + c, by omega, by omega, Ev.step (f := fun k => (markF.l0 k l[i].f1.f3 (a + 4) 0).bind fun b => markR.l0 k (l.set i (⟨a, ⟨a + 1, a + 2, a + 3, b.2⟩⟩ : S118)) b.1 ((i + 1 : Nat) : Int)) (fun k => ?_) (Ev.bind g1 (by rw [← hx1]; exact e1)), e2, fun j hj => ?_, Ev.step (f := fun k => (laws_heldFreeS.f k p (a + 4)).bind fun t => if t < 0 then none else laws_heldReaderS.l0 k l' t ((i + 1 : Nat) : Int)) (fun k => ?_) (Ev.bind g2 (by simp only [if_neg (show ¬ a + 4 + d < 0 by omega)]; exact e4))⟩
  ·rw [markR.l0, if_pos (by omega), if_pos (by omega), rd_T118_nat _ _ hlt0, w1, w2, w3, w4, wrap_in (x := (i : Int) + 1) (by omega) (by omega), Int.toNat_natCast]
   rfl
  ·rw [e3 j (by omega), List.getElem?_set_ne (by omega)]
  ·rw [laws_heldReaderS.l0, if_pos (by omega), if_pos (by omega), rd_T118_nat _ _ hlt, hget, hx1, if_pos rfl, w1, if_pos rfl, w2, if_pos rfl, w3, if_pos rfl, w4, wrap_in (x := (i : Int) + 1) (by omega) (by omega)]
   rfl
theorem mhR_ev (l : List S118) (a : Int) (h0 : 0 < a) (h1 : a ≤ 1000000000000000000) (hl : l.length ≤ 1048576) (hs : ∀ s ∈ l, OKn s.f1.f3) : ∃ l' c, 0 ≤ c ∧ c ≤ 1152922604122669056 ∧ Ev (fun k => markR.l0 k l a 0) (a + c, l') ∧ Ev (fun k => laws_heldReaderS.f k l' a) (a + c) := by
 obtain ⟨l', c, c0, c1, e1, _, _, e4⟩ := mhR l.length 0 l a (by omega) h0 (by omega) hl (fun j h _ => hs _ (List.getElem_mem h))
 exact ⟨l', c, c0, by omega, e1, e4⟩
def EvP (P : Nat → Prop) : Prop := ∃ K, ∀ k, K ≤ k → P k
theorem EvP.and {P Q : Nat → Prop} (h : EvP P) (h2 : EvP Q) : EvP (fun k => P k ∧ Q k) := by
 obtain ⟨K, h⟩ := h
 obtain ⟨J, h2⟩ := h2
 exact ⟨K + J, fun k hk => ⟨h k (by omega), h2 k (by omega)⟩⟩
theorem EvP.now {P : Prop} (h : P) : EvP (fun _ => P) := ⟨0, fun _ _ => h⟩
theorem EvP.imp {P Q : Nat → Prop} (h : EvP P) (hi : ∀ k, P k → Q k) : EvP Q := by
 obtain ⟨K, h⟩ := h
 exact ⟨K, fun k hk => hi k (h k hk)⟩
theorem EvP.of {α : Type} {f : Nat → Option α} {r : α} (h : Ev f r) : EvP (fun k => f k = some r) := h
def INs (a : ((List ByteArray × List S140) × S69 × List S154 × (S69 × (List ByteArray × List S140 × Int × List Int × List Int × List Int) × Int) × Bool × Bool)) : Prop := INd a.1.1 a.1.2 ∧ INm a.2.1.f3 ∧ ((∀ s ∈ a.2.2.1, INm s.f1.f3) ∧ a.2.2.1.length ≤ 9223372036854775807) ∧ INm a.2.2.2.1.1.f3 ∧ INd a.2.2.2.1.2.1.1 a.2.2.2.1.2.1.2.1 ∧ INi a.2.2.2.1.2.1.2.2.2.1 ∧ INi a.2.2.2.1.2.1.2.2.2.2.1 ∧ INi a.2.2.2.1.2.1.2.2.2.2.2
def OKl (a : ((List ByteArray × List S140) × S69 × List S154 × (S69 × (List ByteArray × List S140 × Int × List Int × List Int × List Int) × Int) × Bool × Bool)) : Prop := Small a.1.1 a.1.2 ∧ OKm a.2.1.f3 ∧ (a.2.2.1.length ≤ 1048576 ∧ ∀ s ∈ a.2.2.1, OKm s.f1.f3) ∧ OKm a.2.2.2.1.1.f3 ∧ Small a.2.2.2.1.2.1.1 a.2.2.2.1.2.1.2.1 ∧ a.2.2.2.1.2.1.2.2.2.1.length ≤ 1048576 ∧ a.2.2.2.1.2.1.2.2.2.2.1.length ≤ 1048576 ∧ a.2.2.2.1.2.1.2.2.2.2.2.length ≤ 1048576
def OKs (d : ((List ByteArray × List S135) × S53 × List S118 × (S53 × (List ByteArray × List S135 × Int × List Int × List Int × List Int) × Int) × Bool × Bool)) : Prop := (d.1.1.length ≤ 1048576 ∧ d.1.2.length ≤ 1048576) ∧ OKn d.2.1.f3 ∧ (d.2.2.1.length ≤ 1048576 ∧ ∀ s ∈ d.2.2.1, OKn s.f1.f3) ∧ OKn d.2.2.2.1.1.f3 ∧ (d.2.2.2.1.2.1.1.length ≤ 1048576 ∧ d.2.2.2.1.2.1.2.1.length ≤ 1048576) ∧ d.2.2.2.1.2.1.2.2.2.1.length ≤ 1048576 ∧ d.2.2.2.1.2.1.2.2.2.2.1.length ≤ 1048576 ∧ d.2.2.2.1.2.1.2.2.2.2.2.length ≤ 1048576
theorem sz_store (a : ((List ByteArray × List S140) × S69 × List S154 × (S69 × (List ByteArray × List S140 × Int × List Int × List Int × List Int) × Int) × Bool × Bool)) (h : INs a) : ∃ r, Ev (fun k => szStore_f k a 1048576) r ∧ (r < 0 ∨ (¬ r < 0 ∧ OKl a)) := by
 obtain ⟨⟨a0, a1⟩, x, rs, ⟨y, ⟨l0, l1, l2, l3, l4, l5⟩, n⟩, bw, bf⟩ := a
 obtain ⟨h1, h2, h3, h4, h5, h6, h7, h8⟩ := h
 obtain ⟨r, e, h⟩ := sz_step (szDx a0 a1 h1 1048576 (by omega) (by omega)) (fun v v0 v1 => sz_step (szMx x.f0 x.f1 x.f2 x.f3 h2 v v0 (by omega)) (fun u u0 u1 => sz_step (szRx rs h3.1 h3.2 u u0 (by omega)) (fun t t0 t1 => sz_end (szTx y.f0 y.f1 y.f2 y.f3 l0 l1 l2 l3 l4 l5 n h4 h5 h6 h7 h8 t t0 (by omega)))))
 refine ⟨r, e, ?_⟩
 rcases h with h | ⟨g0, _, g1, g2, g3, g4, g5, g6, g7, g8⟩
 ·exact .inl h
 ·exact .inr ⟨by omega, g1, g2, g3, g4, g5, g6, g7, g8⟩
def convM (x : S69) : S53 := ⟨x.f0, x.f1, x.f2, x.f3.map convF⟩
def convS (a : ((List ByteArray × List S140) × S69 × List S154 × (S69 × (List ByteArray × List S140 × Int × List Int × List Int × List Int) × Int) × Bool × Bool)) : ((List ByteArray × List S135) × S53 × List S118 × (S53 × (List ByteArray × List S135 × Int × List Int × List Int × List Int) × Int) × Bool × Bool) := ((a.1.1, a.1.2.map conv), convM a.2.1, a.2.2.1.map convR, (convM a.2.2.2.1.1, (a.2.2.2.1.2.1.1, a.2.2.2.1.2.1.2.1.map conv, a.2.2.2.1.2.1.2.2.1, a.2.2.2.1.2.1.2.2.2.1, a.2.2.2.1.2.1.2.2.2.2.1, a.2.2.2.1.2.1.2.2.2.2.2), a.2.2.2.1.2.2), a.2.2.2.2.1, a.2.2.2.2.2)
theorem to_store (a : ((List ByteArray × List S140) × S69 × List S154 × (S69 × (List ByteArray × List S140 × Int × List Int × List Int × List Int) × Int) × Bool × Bool)) (h : OKl a) : EvP (fun k => ToStore k a (convS a)) ∧ OKs (convS a) := by
 obtain ⟨h1, h2, h3, h4, h5, h6, h7, h8⟩ := h
 have hW : EvP (fun k => ToWork k a.2.2.2.1.2.1 (convS a).2.2.2.1.2.1) := ((EvP.of (toD_ev _ _ h5)).and ((EvP.now rfl).and ((EvP.of (toI_ev _ h6)).and ((EvP.of (toI_ev _ h7)).and (EvP.of (toI_ev _ h8)))))).imp (fun k h => h)
 have hT : EvP (fun k => ToTxn k a.2.2.2.1 (convS a).2.2.2.1) := ((EvP.of (toM_ev _ _ _ _ h4.1 h4.2)).and (hW.and (EvP.now rfl))).imp (fun k h => h)
 refine ⟨((EvP.of (toD_ev _ _ h1)).and ((EvP.of (toM_ev _ _ _ _ h2.1 h2.2)).and ((EvP.of (toR_ev _ h3.1 h3.2)).and (hT.and (EvP.now ⟨rfl, rfl⟩))))).imp (fun k h => h), ?_⟩
 refine ⟨⟨h1.1.1, by show (a.1.2.map conv).length ≤ _; rw [List.length_map]; exact h1.2.1⟩, OKn_conv h2, ⟨by show (a.2.2.1.map convR).length ≤ _; rw [List.length_map]; exact h3.1, fun s hs => ?_⟩, OKn_conv h4, ⟨h5.1.1, by show (a.2.2.2.1.2.1.2.1.map conv).length ≤ _; rw [List.length_map]; exact h5.2.1⟩, h6, h7, h8⟩
 obtain ⟨t, ht, rfl⟩ := List.mem_map.1 hs
 exact OKn_conv (h3.2 t ht)
theorem eq_store (d : ((List ByteArray × List S135) × S53 × List S118 × (S53 × (List ByteArray × List S135 × Int × List Int × List Int × List Int) × Int) × Bool × Bool)) (h : OKs d) : EvP (fun k => EqStore k d) := by
 obtain ⟨⟨a0, a1⟩, x, rs, ⟨y, ⟨l0, l1, l2, l3, l4, l5⟩, n⟩, bw, bf⟩ := d
 obtain ⟨h1, h2, h3, h4, h5, h6, h7, h8⟩ := h
 have g := fun {n : Nat} (h : n ≤ 1048576) => Nat.le_trans h (show 1048576 ≤ 2000000 by decide)
 exact ((EvP.of (eqD_ev a0 a1 (g h1.1) (g h1.2))).and ((EvP.of (eqM_ev x.f0 x.f1 x.f2 x.f3 h2.1 h2.2)).and ((EvP.of (eqR_ev rs h3.1 h3.2)).and ((EvP.of (eqM_ev y.f0 y.f1 y.f2 y.f3 h4.1 h4.2)).and ((EvP.of (eqD_ev l0 l1 (g h5.1) (g h5.2))).and ((EvP.of (eqI_ev l3 (g h6))).and ((EvP.of (eqI_ev l4 (g h7))).and (EvP.of (eqI_ev l5 (g h8)))))))))).imp (fun k h => h)
theorem mark_store (d : ((List ByteArray × List S135) × S53 × List S118 × (S53 × (List ByteArray × List S135 × Int × List Int × List Int × List Int) × Int) × Bool × Bool)) (h : OKs d) : ∃ d' mk, EvP (fun k => MarkStore k d 1 d' mk) ∧ ¬ mk < 0 ∧ EvP (fun k => HeldStore k d' 1 mk) := by
 obtain ⟨⟨a0, a1⟩, x, rs, ⟨y, ⟨l0, l1, l2, l3, l4, l5⟩, n⟩, bw, bf⟩ := d
 obtain ⟨h1, h2, h3, h4, h5, h6, h7, h8⟩ := h
 have b0 : a0.length ≤ 1048576 := h1.1
 have b1 : a1.length ≤ 1048576 := h1.2
 have b2 : x.f3.length ≤ 1048576 := h2.1
 have b4 : y.f3.length ≤ 1048576 := h4.1
 have b5 : l0.length ≤ 1048576 := h5.1
 have b6 : l1.length ≤ 1048576 := h5.2
 have b7 : l3.length ≤ 1048576 := h6
 have b8 : l4.length ≤ 1048576 := h7
 have b9 : l5.length ≤ 1048576 := h8
 obtain ⟨p, q, m1, d1⟩ := mhD_ev a0 a1 1 (by omega) (by omega) (by omega) (by omega)
 obtain ⟨u1, hu1⟩ : ∃ u : Int, u = 1 + a0.length + 2 * a1.length := ⟨_, rfl⟩
 rw [← hu1] at m1 d1
 obtain ⟨fr, c2, c20, c21, m2, d2⟩ := mhF_ev x.f3 u1 (by omega) (by omega) h2
 obtain ⟨u2, hu2⟩ : ∃ u : Int, u = u1 + c2 := ⟨_, rfl⟩
 rw [← hu2] at m2 d2
 obtain ⟨rr, c3, c30, c31, m3, d3⟩ := mhR_ev rs u2 (by omega) (by omega) h3.1 h3.2
 obtain ⟨u3, hu3⟩ : ∃ u : Int, u = u2 + c3 := ⟨_, rfl⟩
 rw [← hu3] at m3 d3
 obtain ⟨gr, c4, c40, c41, m4, d4⟩ := mhF_ev y.f3 u3 (by omega) (by omega) h4
 obtain ⟨u4, hu4⟩ : ∃ u : Int, u = u3 + c4 := ⟨_, rfl⟩
 rw [← hu4] at m4 d4
 obtain ⟨p', q', m5, d5⟩ := mhD_ev l0 l1 u4 (by omega) (by omega) (by omega) (by omega)
 obtain ⟨u5, hu5⟩ : ∃ u : Int, u = u4 + l0.length + 2 * l1.length := ⟨_, rfl⟩
 rw [← hu5] at m5 d5
 obtain ⟨s3, m6, d6⟩ := mhI_ev l3 u5 (by omega) (by omega) (by omega)
 obtain ⟨u6, hu6⟩ : ∃ u : Int, u = u5 + l3.length := ⟨_, rfl⟩
 rw [← hu6] at m6 d6
 obtain ⟨s4, m7, d7⟩ := mhI_ev l4 u6 (by omega) (by omega) (by omega)
 obtain ⟨u7, hu7⟩ : ∃ u : Int, u = u6 + l4.length := ⟨_, rfl⟩
 rw [← hu7] at m7 d7
 obtain ⟨s5, m8, d8⟩ := mhI_ev l5 u7 (by omega) (by omega) (by omega)
 obtain ⟨u8, hu8⟩ : ∃ u : Int, u = u7 + l5.length := ⟨_, rfl⟩
 rw [← hu8] at m8 d8
 refine ⟨((p, q), ⟨x.f0, x.f1, x.f2, fr⟩, rr, (⟨y.f0, y.f1, y.f2, gr⟩, (p', q', l2, s3, s4, s5), n), bw, bf), u8, ?_, by omega, ?_⟩
 ·refine ((EvP.of m1).and ((EvP.of m2).and ((EvP.of m3).and ((EvP.of m4).and ((EvP.of m5).and ((EvP.of m6).and ((EvP.of m7).and (EvP.of m8)))))))).imp ?_
  rintro k ⟨f1, f2, f3, f4, f5, f6, f7, f8⟩
  exact ⟨u1, u2, u3, u4, u5, u6, u7, f1, f2, f3, f4, f5, f6, f7, f8, rfl⟩
 ·have hm := fun {a b c u u' : Int} {fr : List S122} (d : Ev (fun k => laws_heldFreeS.l0 k fr u 0) u') (hu : 0 ≤ u') => (show Ev (fun k => heldMeta_c_f k ⟨a, b, c, fr⟩ u) u' by show Ev (fun k => laws_heldMeta.f k a b c fr u) u'; unfold laws_heldMeta.f; exact hld d (by omega) (Ev.now _))
  refine ((EvP.of d1).and ((EvP.of (hm (a := x.f0) (b := x.f1) (c := x.f2) d2 (by omega))).and ((EvP.of d3).and ((EvP.of (hm (a := y.f0) (b := y.f1) (c := y.f2) d4 (by omega))).and ((EvP.of d5).and ((EvP.of d6).and ((EvP.of d7).and (EvP.of d8)))))))).imp ?_
  rintro k ⟨f1, f2, f3, f4, f5, f6, f7, f8⟩
  exact ⟨u1, u2, u3, f1, by omega, f2, by omega, f3, by omega, ⟨u4, f4, by omega, ⟨u5, u6, u7, f5, by omega, f6, by omega, f7, by omega, f8, by omega⟩, by omega⟩, by omega⟩
def CloneImpl (k : Nat) (d : ((List ByteArray × List S135) × S53 × List S118 × (S53 × (List ByteArray × List S135 × Int × List Int × List Int × List Int) × Int) × Bool × Bool)) : Prop := impl_cloneDisk.f d.1.1 d.1.2 = some (d.1.1, d.1.2) ∧ impl_cloneMeta.f k d.2.1.f0 d.2.1.f1 d.2.1.f2 d.2.1.f3 = some (d.2.1.f0, d.2.1.f1, d.2.1.f2, d.2.1.f3) ∧ (∀ r ∈ d.2.2.1, impl_cloneMeta.f k r.f1.f0 r.f1.f1 r.f1.f2 r.f1.f3 = some (r.f1.f0, r.f1.f1, r.f1.f2, r.f1.f3)) ∧ impl_cloneMeta.f k d.2.2.2.1.1.f0 d.2.2.2.1.1.f1 d.2.2.2.1.1.f2 d.2.2.2.1.1.f3 = some (d.2.2.2.1.1.f0, d.2.2.2.1.1.f1, d.2.2.2.1.1.f2, d.2.2.2.1.1.f3) ∧ ((d.2.2.2.1.2.1.1.length ≤ 2000000 ∧ d.2.2.2.1.2.1.2.1.length ≤ 2000000) ∧ d.2.2.2.1.2.1.2.2.2.1.length ≤ 2000000 ∧ d.2.2.2.1.2.1.2.2.2.2.1.length ≤ 2000000 ∧ d.2.2.2.1.2.1.2.2.2.2.2.length ≤ 2000000) ∧ d.2.2.1.length ≤ 2000000
def CloneSpec (k : Nat) (d : ((List ByteArray × List S135) × S53 × List S118 × (S53 × (List ByteArray × List S135 × Int × List Int × List Int × List Int) × Int) × Bool × Bool)) : Prop := (d.1.1.length ≤ 2000000 ∧ d.1.2.length ≤ 2000000) ∧ SmallM d.2.1 ∧ (∀ r ∈ d.2.2.1, SmallM r.f1) ∧ SmallM d.2.2.2.1.1 ∧ ((d.2.2.2.1.2.1.1.length ≤ 2000000 ∧ d.2.2.2.1.2.1.2.1.length ≤ 2000000) ∧ d.2.2.2.1.2.1.2.2.2.1.length ≤ 2000000 ∧ d.2.2.2.1.2.1.2.2.2.2.1.length ≤ 2000000 ∧ d.2.2.2.1.2.1.2.2.2.2.2.length ≤ 2000000) ∧ d.2.2.1.length ≤ 2000000
theorem cloneM_go (l : List S122) (f0 f1 f2 : Int) (hl : l.length ≤ 1048576) (hs : ∀ s ∈ l, s.f1.length ≤ 1048576) : ∀ (n i : Nat), i + n = l.length → Ev (fun k => impl_cloneMeta.l0 k (l.take i) l (l.length : Int) (i : Int) f0 f1 f2 l) (f0, f1, f2, l) := by
 intro n
 induction n with
 | zero =>
  intro i hi
  refine Ev.step (f := fun _ => some (f0, f1, f2, l)) (fun k => ?_) (Ev.now _)
  rw [impl_cloneMeta.l0, if_neg (by omega), List.take_of_length_le (by omega)]
 | succ n ih =>
  intro i hi
  have hlt : i < l.length := by omega
  have hsi := hs _ (List.getElem_mem hlt)
  refine Ev.step (f := fun k => impl_cloneMeta.l0 k (l.take (i + 1)) l (l.length : Int) ((i + 1 : Nat) : Int) f0 f1 f2 l) (fun k => ?_) (ih (i + 1) (by omega))
  rw [impl_cloneMeta.l0, if_pos (by omega), if_pos (by omega), if_pos (by omega), rd_T122_nat _ _ hlt]
  unfold slices_Clone_int_int.f
  rw [if_pos (by omega), Option.bind_some, if_pos (by rw [List.length_take]; omega), wrap_in (by omega) (by omega), List.take_succ_eq_append_getElem hlt]
  rfl
theorem cloneM_ev (x : S53) (h : OKn x.f3) : Ev (fun k => impl_cloneMeta.f k x.f0 x.f1 x.f2 x.f3) (x.f0, x.f1, x.f2, x.f3) := cloneM_go x.f3 x.f0 x.f1 x.f2 h.1 h.2 x.f3.length 0 (by omega)
theorem cloneR_ev (l : List S118) (hs : ∀ s ∈ l, OKn s.f1.f3) : EvP (fun k => ∀ r ∈ l, impl_cloneMeta.f k r.f1.f0 r.f1.f1 r.f1.f2 r.f1.f3 = some (r.f1.f0, r.f1.f1, r.f1.f2, r.f1.f3)) := by
 induction l with
 | nil => exact ⟨0, fun k _ r h => by cases h⟩
 | cons x l ih =>
  refine ((EvP.of (cloneM_ev x.f1 (hs x (List.mem_cons_self)))).and (ih (fun s h => hs s (List.mem_cons_of_mem _ h)))).imp ?_
  rintro k ⟨h1, h2⟩ r hr
  rcases List.mem_cons.1 hr with rfl | hr
  ·exact h1
  ·exact h2 r hr
theorem cloneD_id (p : List ByteArray) (q : List S135) (hp : p.length ≤ 2000000) (hq : q.length ≤ 2000000) : impl_cloneDisk.f p q = some (p, q) := by
 unfold impl_cloneDisk.f slices_Clone_string_string.f impl_Put.f
 rw [if_pos (by omega), if_pos (by omega)]
 rfl
theorem cloneI_ev (d : ((List ByteArray × List S135) × S53 × List S118 × (S53 × (List ByteArray × List S135 × Int × List Int × List Int × List Int) × Int) × Bool × Bool)) (h : OKs d) : EvP (fun k => CloneImpl k d) := by
 obtain ⟨⟨a0, a1⟩, x, rs, ⟨y, ⟨l0, l1, l2, l3, l4, l5⟩, n⟩, bw, bf⟩ := d
 obtain ⟨⟨b0, b1⟩, h2, h3, h4, ⟨b5, b6⟩, h6, h7, h8⟩ := h
 refine ((EvP.now (cloneD_id a0 a1 (Nat.le_trans b0 (by decide)) (Nat.le_trans b1 (by decide)))).and ((EvP.of (cloneM_ev x h2)).and ((cloneR_ev rs h3.2).and ((EvP.of (cloneM_ev y h4)).and (EvP.now ⟨⟨⟨Nat.le_trans b5 (by decide), Nat.le_trans b6 (by decide)⟩, Nat.le_trans h6 (by decide), Nat.le_trans h7 (by decide), Nat.le_trans h8 (by decide)⟩, Nat.le_trans h3.1 (by decide)⟩))))).imp (fun k h => h)
theorem smallM {x : S53} (h : OKn x.f3) : SmallM x := ⟨Nat.le_trans h.1 (by decide), fun f hf => Nat.le_trans (h.2 f hf) (by decide)⟩
theorem cloneS_ev (d : ((List ByteArray × List S135) × S53 × List S118 × (S53 × (List ByteArray × List S135 × Int × List Int × List Int × List Int) × Int) × Bool × Bool)) (h : OKs d) (k : Nat) : CloneSpec k d := by
 obtain ⟨⟨a0, a1⟩, x, rs, ⟨y, ⟨l0, l1, l2, l3, l4, l5⟩, n⟩, bw, bf⟩ := d
 obtain ⟨⟨b0, b1⟩, h2, h3, h4, ⟨b5, b6⟩, h6, h7, h8⟩ := h
 exact ⟨⟨Nat.le_trans b0 (by decide), Nat.le_trans b1 (by decide)⟩, smallM h2, fun r hr => smallM (h3.2 r hr), smallM h4, ⟨⟨Nat.le_trans b5 (by decide), Nat.le_trans b6 (by decide)⟩, Nat.le_trans h6 (by decide), Nat.le_trans h7 (by decide), Nat.le_trans h8 (by decide)⟩, Nat.le_trans h3.1 (by decide)⟩
def At (zs : List S118) (id r : Int) : Prop := (r = -1 ∧ ∀ x ∈ zs, x.f0 ≠ id) ∨ ∃ (i : Nat) (h : i < zs.length), r = (i : Int) ∧ (zs[i]).f0 = id ∧ ∀ (j : Nat) (hj : j < zs.length), j < i → (zs[j]).f0 ≠ id
theorem readerAt1_c (x : S118) (id : Int) {A : Option Addr} {n c g : Nat} (w : World) (hg : w.heap[g]? = some (.cells #[.int .i64 id] 3 (0, 0))) : Calls Try.prog 137 #[.agg #[.int .i64 x.f0, .int .i64 x.f1.f0, .int .i64 x.f1.f1, .int .i64 x.f1.f2, .slice A n c], .pointer (some ⟨g, 0, none⟩)] w fun e w' => e = .returned (.bool (x.f0 == id)) ∧ Below w.heap.size w w' := by
 have hlt := blk_lt hg
 have hb := below_alloc (Below.refl w.heap.size w) (.cells #[.int .i64 x.f0, .int .i64 x.f1.f0, .int .i64 x.f1.f1, .int .i64 x.f1.f2, .slice A n c] 118)
 have h1 : (w.alloc (.cells #[.int .i64 x.f0, .int .i64 x.f1.f0, .int .i64 x.f1.f1, .int .i64 x.f1.f2, .slice A n c] 118)).cell? ⟨g, 0, none⟩ = some (.int .i64 id) := by rw [World.cell?_alloc_past _ _ _ hlt, blk_cell hg]; rfl
 have h0 : (w.alloc (.cells #[.int .i64 x.f0, .int .i64 x.f1.f0, .int .i64 x.f1.f1, .int .i64 x.f1.f2, .slice A n c] 118)).cell? ⟨w.heap.size, 0, none⟩ = some (.int .i64 x.f0) := by rw [World.cell?_alloc_at _ _ _ _ rfl]; rfl
 clear hg
 go_enter Try.func137, Try.ntmps137
 go_wp2
 go_ret
 exact ⟨by first | rfl | (simp [beq_eq_decide]; done), hb⟩
theorem indexFunc_c (zs : List S118) (id r : Int) {g : Nat} {v : Value} (w : World) (h : (Own.srow 118 k118).K w zs [v]) (hg : w.heap[g]? = some (.cells #[.int .i64 id] 3 (0, 0))) (hr : At zs id r) (hl : zs.length ≤ 2000000) : Calls Try.prog 136 #[v, .func (.func 137) #[] #[.pointer (some ⟨g, 0, none⟩)]] w fun e w' => e = .returned (.int .i64 r) ∧ Below w.heap.size w w' := by
 obtain ⟨A, c, hv, mR, rR⟩ := h
 injection hv with hv
 subst hv
 have CR := Aside0.mk rR
 have HG := Aside0.mk hg
 have HR := Aside0.mk hr
 clear rR hg hr
 go_enter Try.func136, Try.ntmps136
 go_wp2_with fail
 go_loopg [8] (zs.length + 1) (fun kq v8 w' => ∃ (i : Nat), v8 = .int .i64 (i : Int) ∧ Aside0 (kq + i = zs.length + 1) ∧ Aside0 (i ≤ zs.length) ∧ Aside0 (∀ (j : Nat) (hj : j < zs.length), j < i → (zs[j]).f0 ≠ id) ∧ Aside0 (Below w.heap.size w w'))
 case atStart => exact ⟨0, rfl, ⟨by omega⟩, ⟨Nat.zero_le _⟩, ⟨fun j hj h => absurd h (Nat.not_lt_zero _)⟩, ⟨Below.refl _ _⟩⟩
 case round =>
  obtain ⟨i, rfl, HQ, HI, HN, HB⟩ := hrel
  by_cases hlt : i < zs.length
  ·have c1 : decide ((i : Int) < (zs.length : Int)) = true := decide_eq_true (by omega)
   have c0 : decide ((0 : Int) ≤ (i : Int)) = true := decide_eq_true (by omega)
   have c2 : ((i : Int) < (zs.length : Int)) = True := eq_true (by omega)
   have c3 : ((0 : Int) ≤ (i : Int)) = True := eq_true (by omega)
   cases gk with
   | zero => exact absurd HQ.out (by omega)
   | succ k1 =>
    obtain ⟨ad, A4, c4, hA, z0, z1, z2, z3, z4, -, -⟩ := at_T118 CR.out (i : Int) (by omega) (by omega)
    subst hA
    obtain ⟨el, hel⟩ : ∃ el, el = rd_T118 zs (i : Int) := ⟨_, rfl⟩
    have hel2 : el = zs[i] := by rw [hel]; simp [rd_T118, List.getD_eq_getElem?_getD, List.getElem?_eq_getElem hlt]
    rw [← hel] at z0 z1 z2 z3 z4
    replace z0 := (HB.out.cell (World.block_lt_of_cell? w _ z0)).trans z0
    replace z1 := (HB.out.cell (World.block_lt_of_cell? w _ z1)).trans z1
    replace z2 := (HB.out.cell (World.block_lt_of_cell? w _ z2)).trans z2
    replace z3 := (HB.out.cell (World.block_lt_of_cell? w _ z3)).trans z3
    replace z4 := (HB.out.cell (World.block_lt_of_cell? w _ z4)).trans z4
    simp only [Int.toNat_natCast] at z0 z1 z2 z3 z4
    have HE := Aside0.mk hel2
    clear hel hel2
    by_cases he : el.f0 = id
    ·have e1 : (el.f0 == id) = true := beq_iff_eq.2 he
     have hri : r = (i : Int) := by
      rcases HR.out with ⟨-, h⟩ | ⟨i2, h2, rfl, h3, h4⟩
      ·exact absurd (by rw [← HE.out]; exact he) (h zs[i] (List.getElem_mem hlt))
      ·have := HN.out i2 h2
       have := h4 i hlt
       rw [← HE.out] at this
       have : i2 = i := by
        rcases Nat.lt_trichotomy i2 i with h | h | h
        ·exact absurd h3 (HN.out i2 h2 h)
        ·exact h
        ·exact absurd (by rw [← HE.out]; exact he) (h4 i hlt h)
       omega
     have H1 := Aside0.mk e1
     have HH := Aside0.mk he
     clear e1 he
     go_wp2_with (first | ((with_reducible refine (readerAt1_c el id _ (blk_below HG.out HB.out)).mono ?_); rintro e w2 ⟨rfl, hb⟩; have HB2 := Aside0.mk (below_step HB.out hb); clear hb; rw [H1.out]))
     go_ret
     exact ⟨by rw [hri]; try rfl, HB2.out⟩
    ·have e1 : (el.f0 == id) = false := beq_eq_false_iff_ne.2 he
     have H1 := Aside0.mk e1
     have HH := Aside0.mk he
     clear e1 he
     go_wp2_with (first | ((with_reducible refine (readerAt1_c el id _ (blk_below HG.out HB.out)).mono ?_); rintro e w2 ⟨rfl, hb⟩; have HB2 := Aside0.mk (below_step HB.out hb); clear hb; rw [H1.out]))
     go_roundg k1
     case measure => omega
     case rel =>
      exact ⟨i + 1, by go_num, ⟨by have := HQ.out; omega⟩, ⟨by omega⟩, ⟨fun j hj h => by
       rcases Nat.lt_or_ge j i with h2 | h2
       ·exact HN.out j hj h2
       ·have : j = i := by omega
        subst this
        rw [← HE.out]
        exact HH.out⟩, HB2⟩
  ·have c1 : decide ((i : Int) < (zs.length : Int)) = false := decide_eq_false (by omega)
   have hri : r = -1 := by
    rcases HR.out with ⟨h, -⟩ | ⟨i2, h2, rfl, h3, h4⟩
    ·exact h
    ·exact absurd h3 (HN.out i2 h2 (by omega))
   go_wp2
   go_ret
   exact ⟨by rw [hri]; try rfl, HB.out⟩
theorem readerAt_c (z : ((List ByteArray × List S135) × S53 × List S118 × (S53 × (List ByteArray × List S135 × Int × List Int × List Int × List Int) × Int) × Bool × Bool)) (id r : Int) {cs : List Value} (w : World) (h : kStore.K w z cs) (hr : At z.2.2.1 id r) (hl : z.2.2.1.length ≤ 2000000) : Calls Try.prog 83 #[.agg cs.toArray, .int .i64 id] w fun e w' => e = .returned (.int .i64 r) ∧ Below w.heap.size w w' := by
 have hL := kStore.K_len h
 obtain ⟨c0, _, rfl, h0, c1, _, rfl, h1, c2, c3, rfl, h2, h3⟩ := h
 have g2 := h2
 obtain ⟨A, c, rfl, -, -⟩ := h2
 have L0 := kDisk.K_len h0
 have L1 := k53.K_len h1
 obtain ⟨cs, hcs⟩ : ∃ cs, cs = c0 ++ (c1 ++ ([.slice A z.2.2.1.length c] ++ c3)) := ⟨_, rfl⟩
 rw [← hcs]
 have hb := below_alloc (below_alloc (Below.refl w.heap.size w) (.cells cs.toArray 58)) (.cells #[.int .i64 id] 3)
 have hB := blk_alloc (blk_new w (.cells cs.toArray 58)) (.cells #[.int .i64 id] 3)
 have hB2 := blk_new (w.alloc (.cells cs.toArray 58)) (.cells #[.int .i64 id] 3)
 rw [show (w.alloc (.cells cs.toArray 58)).heap.size = w.heap.size + 1 by simp] at hB2
 have HB := Aside0.mk hB
 have HB2 := Aside0.mk hB2
 have HK := Aside0.mk ((Own.srow 118 k118).K_below hb g2)
 have E := Aside0.mk hcs
 have H0 := Aside0.mk L0
 have H1 := Aside0.mk L1
 have Hb := Aside0.mk hb
 have HR := Aside0.mk hr
 clear hB hB2 hb g2 h0 h1 h3 hL L0 L1 hcs hr
 go_enter Try.func83, Try.ntmps83
 go_wp2_with (first | ((with_reducible refine gate_dst (N := 6) rfl ?_); refine ev_loadcell rfl 54 _ rfl w.heap.size 6 (c0 ++ c1) (.slice A z.2.2.1.length c) c3 rfl HB.out (by rw [E.out]; simp only [aA]) (by rw [List.length_append, H0.out, H1.out]; rfl) Try.underlying54 rfl ?_) | ((with_reducible refine (indexFunc_c z.2.2.1 id r _ HK.out HB2.out HR.out hl).mono ?_); rintro e w2 ⟨rfl, hb⟩; have HB3 := Aside0.mk (below_step Hb.out hb); clear hb))
 go_ret
 exact ⟨rfl, HB3.out⟩
theorem l12At_c (z : ((List ByteArray × List S135) × S53 × List S118 × (S53 × (List ByteArray × List S135 × Int × List Int × List Int × List Int) × Int) × Bool × Bool)) (id r : Int) {cs : List Value} (w : World) (h : kStore.K w z cs) (hr : At z.2.2.1 id r) (hl : z.2.2.1.length ≤ 2000000) : Calls Try.prog 79 #[.agg cs.toArray, .int .i64 id] w fun e w' => e = .returned (.int .i64 r) ∧ Below w.heap.size w w' := by
 obtain ⟨c0, _, rfl, h0, c1, _, rfl, h1, c2, c3, rfl, h2, h3⟩ := h
 obtain ⟨zs, hzs⟩ : ∃ zs, zs = z.2.2.1 := ⟨_, rfl⟩
 rw [← hzs] at h2 hr hl
 obtain ⟨A, c, rfl, mR, rR⟩ := h2
 have H0 := Aside0.mk (kDisk.K_len h0)
 have H1 := Aside0.mk (k53.K_len h1)
 obtain ⟨cs, hcs⟩ : ∃ cs, cs = c0 ++ (c1 ++ ([.slice A zs.length c] ++ c3)) := ⟨_, rfl⟩
 rw [← hcs]
 have E := Aside0.mk hcs
 have CR := Aside0.mk rR
 have HR := Aside0.mk hr
 have BA0 := Aside0.mk (blk_new w (.cells cs.toArray 58))
 have HB0 := Aside0.mk (below_alloc (Below.refl w.heap.size w) (.cells cs.toArray 58))
 clear rR hr hcs h0 h1 h3 hzs
 go_enter Try.func79, Try.ntmps79
 go_wp2_with fail
 go_loopg [5] (zs.length + 1) (fun kq v5 w' => ∃ (i : Nat), v5 = .int .i64 (i : Int) ∧ Aside0 (kq + i = zs.length + 1) ∧ Aside0 (i ≤ zs.length) ∧ Aside0 (∀ (j : Nat) (hj : j < zs.length), j < i → (zs[j]).f0 ≠ id) ∧ Aside0 (Below w.heap.size w w') ∧ Aside0 (w'.heap[w.heap.size]? = some (.cells cs.toArray 58 (0, 0))))
 case atStart => exact ⟨0, rfl, ⟨by omega⟩, ⟨Nat.zero_le _⟩, ⟨fun j hj h => absurd h (Nat.not_lt_zero _)⟩, HB0, BA0⟩
 case round =>
  obtain ⟨i, rfl, HQ, HI, HN, HB, BA⟩ := hrel
  clear HB0 BA0
  by_cases hlt : i < zs.length
  ·have c1_ : decide ((i : Int) < (zs.length : Int)) = true := decide_eq_true (by omega)
   have c0_ : decide ((0 : Int) ≤ (i : Int)) = true := decide_eq_true (by omega)
   have c2_ : ((i : Int) < (zs.length : Int)) = True := eq_true (by omega)
   have c3_ : ((0 : Int) ≤ (i : Int)) = True := eq_true (by omega)
   cases gk with
   | zero => exact absurd HQ.out (by omega)
   | succ k1 =>
    obtain ⟨ad, A4, c4, hA, z0, -⟩ := at_T118 CR.out (i : Int) (by omega) (by omega)
    subst hA
    obtain ⟨el, hel⟩ : ∃ el, el = rd_T118 zs (i : Int) := ⟨_, rfl⟩
    have hel2 : el = zs[i] := by rw [hel]; simp [rd_T118, List.getD_eq_getElem?_getD, List.getElem?_eq_getElem hlt]
    rw [← hel] at z0
    replace z0 := (HB.out.cell (World.block_lt_of_cell? w _ z0)).trans z0
    simp only [Int.toNat_natCast] at z0
    have HE := Aside0.mk hel2
    clear hel hel2
    by_cases he : el.f0 = id
    ·have e1 : (el.f0 == id) = true := beq_iff_eq.2 he
     have hri : r = (i : Int) := by
      rcases HR.out with ⟨-, h⟩ | ⟨i2, h2, rfl, h3, h4⟩
      ·exact absurd (by rw [← HE.out]; exact he) (h zs[i] (List.getElem_mem hlt))
      ·have : i2 = i := by
        rcases Nat.lt_trichotomy i2 i with h | h | h
        ·exact absurd h3 (HN.out i2 h2 h)
        ·exact h
        ·exact absurd (by rw [← HE.out]; exact he) (h4 i hlt h)
       omega
     have HH := Aside0.mk he
     clear he
     go_wp2_with (first | ((with_reducible refine gate_dst (N := 8) rfl ?_); refine ev_loadcell rfl 54 _ rfl w.heap.size 6 (c0 ++ c1) (.slice (some ad) zs.length c) c3 rfl BA.out (by rw [E.out]; simp only [aA]) (by rw [List.length_append, H0.out, H1.out]; rfl) Try.underlying54 rfl ?_) | ((with_reducible refine gate_dst (N := 14) rfl ?_); refine ev_loadcell rfl 54 _ rfl w.heap.size 6 (c0 ++ c1) (.slice (some ad) zs.length c) c3 rfl BA.out (by rw [E.out]; simp only [aA]) (by rw [List.length_append, H0.out, H1.out]; rfl) Try.underlying54 rfl ?_))
     go_ret
     exact ⟨by rw [hri]; try rfl, HB.out⟩
    ·have e1 : (el.f0 == id) = false := beq_eq_false_iff_ne.2 he
     have HH := Aside0.mk he
     clear he
     go_wp2_with (first | ((with_reducible refine gate_dst (N := 8) rfl ?_); refine ev_loadcell rfl 54 _ rfl w.heap.size 6 (c0 ++ c1) (.slice (some ad) zs.length c) c3 rfl BA.out (by rw [E.out]; simp only [aA]) (by rw [List.length_append, H0.out, H1.out]; rfl) Try.underlying54 rfl ?_) | ((with_reducible refine gate_dst (N := 14) rfl ?_); refine ev_loadcell rfl 54 _ rfl w.heap.size 6 (c0 ++ c1) (.slice (some ad) zs.length c) c3 rfl BA.out (by rw [E.out]; simp only [aA]) (by rw [List.length_append, H0.out, H1.out]; rfl) Try.underlying54 rfl ?_))
     go_roundg k1
     case measure => omega
     case rel =>
      exact ⟨i + 1, by go_num, ⟨by have := HQ.out; omega⟩, ⟨by omega⟩, ⟨fun j hj h => by
       rcases Nat.lt_or_ge j i with h2 | h2
       ·exact HN.out j hj h2
       ·have : j = i := by omega
        subst this
        rw [← HE.out]
        exact HH.out⟩, HB, BA⟩
  ·have c1_ : decide ((i : Int) < (zs.length : Int)) = false := decide_eq_false (by omega)
   have hri : r = -1 := by
    rcases HR.out with ⟨h, -⟩ | ⟨i2, h2, rfl, h3, h4⟩
    ·exact h
    ·exact absurd h3 (HN.out i2 h2 (by omega))
   go_wp2_with (first | ((with_reducible refine gate_dst (N := 8) rfl ?_); refine ev_loadcell rfl 54 _ rfl w.heap.size 6 (c0 ++ c1) (.slice (A) zs.length c) c3 rfl BA.out (by rw [E.out]; simp only [aA]) (by rw [List.length_append, H0.out, H1.out]; rfl) Try.underlying54 rfl ?_))
   go_ret
   exact ⟨by rw [hri]; try rfl, HB.out⟩
end Go.Proofs.Ytonhdiemjgdcnaa.PFnExactGivePage
