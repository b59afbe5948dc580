import Derived.Test.YtonhdiemjgdcnaaRA3
set_option maxHeartbeats 64000000
set_option maxRecDepth 100000
set_option linter.unusedVariables false
set_option linter.unusedSimpArgs false
namespace Go.Proofs.Ytonhdiemjgdcnaa.PFnExactGivePage
open Go.RowKit Go.Proofs.YtonhdiemjgdcnaaW.PrintWords Go.Proofs.YtonhdiemjgdcnaaW.PrintLast Go.Proofs.YtonhdiemjgdcnaaW.PrintMore
attribute [local go_sem] max2_int min2_int max_two min_two max_three min_three max_four min_four
def spec_l08Copy.f (l0_0 : List ByteArray) (l0_1 : List (S135)) (a0_2 : Int) (l0_3 : List Int) (l0_4 : List Int) (l0_5 : List Int) : Option (List ByteArray × (List (S135)) × Int × List Int × List Int × List Int) := (spec_l03Copy.f l0_0 l0_1).bind fun bt129 => ((some (([] : List Int) : List Int)).bind fun y135 => (if y135.length + l0_3.length < 17592186044416 then ((some (([] : List Int) : List Int)).bind fun y141 => (if y141.length + l0_4.length < 17592186044416 then ((some (([] : List Int) : List Int)).bind fun y147 => (if y147.length + l0_5.length < 17592186044416 then (some (bt129.1, bt129.2, a0_2, (y135 ++ l0_3), (y141 ++ l0_4), (y147 ++ l0_5))) else (none))) else (none))) else (none)))
def spec_l08Copy.T1 : Bool × List (List Nat × List Nat) := (true, [([], []), ([0], [0]), ([1], [1]), ([], []), ([3], [3]), ([], []), ([], []), ([6], [6]), ([5, 7, 2], [5, 7]), ([], []), ([], []), ([10], [10]), ([9, 11, 8], [9, 11]), ([], []), ([], []), ([14], [14]), ([13, 15, 12], [13, 15]), ([2, 4, 8, 12, 16], [2, 4, 8, 12, 16]), ([17, 16, 0, 1, 2, 3, 4, 5, 6, 7, 8, 9, 10, 11, 12, 13, 14, 15, 16, 17], [17])])
def spec_l08Copy.B1 : List Nat := [0, 1, 3, 0, 8, 0, 0, 64, 231, 0, 0, 1024, 4071, 0, 0, 16384, 65511, 131071, 262143]
theorem spec_l08Copy.tab1 : rtab .any (opsOf Try.f47 1) = spec_l08Copy.T1 := by kernel_rfl
theorem spec_l08Copy.bits1 : waitsOk spec_l08Copy.T1.2 spec_l08Copy.B1 = true := by kernel_rfl
theorem sA0 {α : Type _} (l : List α) (i : Nat) (a : α) : l.toArray.setIfInBounds i a = (l.set i a).toArray := List.setIfInBounds_toArray l i a
theorem sA1 {α : Type _} (x y : α) (xs : List α) : (x :: xs).set 0 y = y :: xs := rfl
theorem sA2 {α : Type _} (x y : α) (i : Nat) (xs : List α) : (x :: xs).set (i + 1) y = x :: xs.set i y := rfl
theorem kA0 {α : Type} {d : Kd α} {e : Nat} {w : World} {base : Nat} {ok : Nat → Prop} {v : Value} {xs : List α} (h : d.R e w base ok v xs) (o : Obj) : d.R e (w.alloc o) base ok v xs := Kd.R_alloc h o
theorem kA1 {α : Type} {d : Kd α} {e : Nat} {w : World} {base : Nat} {ok : Nat → Prop} {v : Value} {xs : List α} (h : d.R e w base ok v xs) (m : Nat) : d.R e (w.drewN m) base ok v xs := Kd.R_drewN h m
theorem kA2 {α : Type} {d : Kd α} {e : Nat} {w : World} {base : Nat} {ok : Nat → Prop} {v : Value} {xs : List α} (h : d.R e w base ok v xs) : d.R e w.drew base ok v xs := Kd.R_drew h
theorem kA3 {B : Nat} {w W : World} (h : Below B w W) (n : Nat) : Below B w (W.drewN n) := pw_below_drewN h n
theorem kA4 {base : Nat} {w W : World} (h : Below base w W) : Below base w W.drew := below_drew1 h
theorem kA5 {w W : World} (h : Below w.heap.size w W) (o : Obj) : Below w.heap.size w (W.alloc o) := below_alloc h o
theorem kA6 {w : World} {g : Nat} {o : Obj} (h : w.heap[g]? = some o) (n : Nat) : (w.drewN n).heap[g]? = some o := blk_drewN h n
theorem kA7 {w : World} {g : Nat} {o : Obj} (h : w.heap[g]? = some o) (o' : Obj) : (w.alloc o').heap[g]? = some o := blk_alloc h o'
theorem kA8 {w : World} {g : Nat} {o : Obj} (h : w.heap[g]? = some o) : w.drew.heap[g]? = some o := blk_drew h
theorem kA9 {p : Prop} (h : p) : Aside0 p := Aside0.mk h
theorem spec_l08Copy.calls (A0_0 : Option Addr) (c0_0 : Nat) (l0_0 : List ByteArray) (A0_1 : Option Addr) (c0_1 : Nat) (l0_1 : List (S135)) (a0_2 : Int) (A0_3 : Option Addr) (c0_3 : Nat) (l0_3 : List Int) (A0_4 : Option Addr) (c0_4 : Nat) (l0_4 : List Int) (A0_5 : Option Addr) (c0_5 : Nat) (l0_5 : List Int) (r1 : List ByteArray) (r2 : List (S135)) (r3 : Int) (r4 : List Int) (r5 : List Int) (r6 : List Int) (w : World) (hr0_0 : Kd.C Kd.string w A0_0 l0_0.length l0_0) (hc0_0 : l0_0.length ≤ c0_0) (hr0_1 : Kd.C k135 w A0_1 l0_1.length l0_1) (hc0_1 : l0_1.length ≤ c0_1) (hr0_3 : Kd.C (Kd.int .i64) w A0_3 l0_3.length l0_3) (hc0_3 : l0_3.length ≤ c0_3) (hr0_4 : Kd.C (Kd.int .i64) w A0_4 l0_4.length l0_4) (hc0_4 : l0_4.length ≤ c0_4) (hr0_5 : Kd.C (Kd.int .i64) w A0_5 l0_5.length l0_5) (hc0_5 : l0_5.length ≤ c0_5) (h : spec_l08Copy.f l0_0 l0_1 a0_2 l0_3 l0_4 l0_5 = some (r1, r2, r3, r4, r5, r6)) :
  Calls Try.prog 47 #[.agg #[.slice A0_0 l0_0.length c0_0, .slice A0_1 l0_1.length c0_1, .int .i64 a0_2, .slice A0_3 l0_3.length c0_3, .slice A0_4 l0_4.length c0_4, .slice A0_5 l0_5.length c0_5]] w fun e w' => ∃ v0_ v1_ v3_ v4_ v5_ : Value, e = .returned (.agg #[v0_, v1_, .int .i64 r3, v3_, v4_, v5_]) ∧ Kd.R Kd.string 9 w' w.heap.size (fun _ => True) v0_ r1 ∧ Kd.R k135 135 w' w.heap.size (fun _ => True) v1_ r2 ∧ Kd.R (Kd.int .i64) 3 w' w.heap.size (fun k_ => some k_ ≠ (v4_ : Value).ownBlock ∧ some k_ ≠ (v5_ : Value).ownBlock) v3_ r4 ∧ Kd.R (Kd.int .i64) 3 w' w.heap.size (fun k_ => some k_ ≠ (v3_ : Value).ownBlock ∧ some k_ ≠ (v5_ : Value).ownBlock) v4_ r5 ∧ Kd.R (Kd.int .i64) 3 w' w.heap.size (fun k_ => some k_ ≠ (v3_ : Value).ownBlock ∧ some k_ ≠ (v4_ : Value).ownBlock) v5_ r6 ∧ Below w.heap.size w w' := by
 have hu34 := Try.underlying34
 have hu32 := Try.underlying32
 have bd := kA9 hr0_0
 have be := kA9 hc0_0
 clear hr0_0 hc0_0
 have bf := kA9 hr0_1
 have bg := kA9 hc0_1
 clear hr0_1 hc0_1
 have c9 := kA9 hr0_3
 have HC0_3 := kA9 hc0_3
 clear hr0_3 hc0_3
 have HR0_4 := kA9 hr0_4
 have HC0_4 := kA9 hc0_4
 clear hr0_4 hc0_4
 have HR0_5 := kA9 hr0_5
 have HC0_5 := kA9 hc0_5
 clear hr0_5 hc0_5
 have HB := kA9 (Below.refl w.heap.size w)
 have H : ((spec_l03Copy.f l0_0 l0_1).bind fun bt129 => ((some (([] : List Int) : List Int)).bind fun av => (if av.length + l0_3.length < 17592186044416 then ((some (([] : List Int) : List Int)).bind fun aq => (if aq.length + l0_4.length < 17592186044416 then ((some (([] : List Int) : List Int)).bind fun am => (if am.length + l0_5.length < 17592186044416 then (some (bt129.1, bt129.2, a0_2, (av ++ l0_3), (aq ++ l0_4), (am ++ l0_5))) else (none))) else (none))) else (none)))) = some (r1, r2, r3, r4, r5, r6) := h
 clear h
 replace H := Option.bind_eq_some_iff.mp H
 obtain ⟨⟨aj, ak⟩, A20, H⟩ := H
 replace H : ((some (([] : List Int) : List Int)).bind fun av => (if av.length + l0_3.length < 17592186044416 then ((some (([] : List Int) : List Int)).bind fun aq => (if aq.length + l0_4.length < 17592186044416 then ((some (([] : List Int) : List Int)).bind fun am => (if am.length + l0_5.length < 17592186044416 then (some (aj, ak, a0_2, (av ++ l0_3), (aq ++ l0_4), (am ++ l0_5))) else (none))) else (none))) else (none))) = some (r1, r2, r3, r4, r5, r6) := H
 have A2 := kA9 A20
 clear A20
 obtain ⟨av, bv⟩ : ∃ y_ : List Int, y_ = (([] : List Int)) := ⟨_, rfl⟩
 replace H : (if av.length + l0_3.length < 17592186044416 then ((some (([] : List Int) : List Int)).bind fun aq => (if aq.length + l0_4.length < 17592186044416 then ((some (([] : List Int) : List Int)).bind fun am => (if am.length + l0_5.length < 17592186044416 then (some (aj, ak, a0_2, (av ++ l0_3), (aq ++ l0_4), (am ++ l0_5))) else (none))) else (none))) else (none)) = some (r1, r2, r3, r4, r5, r6) := by first | (rw [bv]; with_reducible exact H) | (have H2_ := (Option.bind_some _ _).symm.trans H; rw [bv]; with_reducible exact H2_) | (have H2_ := (Option.bind_some _ _).symm.trans H; with_reducible exact H2_) | with_reducible exact H | (rw [bv]; exact H) | exact H
 have b1 := kA9 bv
 clear bv
 by_cases c3 : av.length + l0_3.length < 17592186044416
 ·rw [if_pos c3] at H
  have cb := kA9 c3
  clear c3
  obtain ⟨az, bx⟩ : ∃ y_ : List Int, y_ = (av ++ l0_3) := ⟨_, rfl⟩
  replace H : ((some (([] : List Int) : List Int)).bind fun aq => (if aq.length + l0_4.length < 17592186044416 then ((some (([] : List Int) : List Int)).bind fun am => (if am.length + l0_5.length < 17592186044416 then (some (aj, ak, a0_2, az, (aq ++ l0_4), (am ++ l0_5))) else (none))) else (none))) = some (r1, r2, r3, r4, r5, r6) := by first | (rw [bx]; with_reducible exact H) | (have H2_ := (Option.bind_some _ _).symm.trans H; rw [bx]; with_reducible exact H2_) | (have H2_ := (Option.bind_some _ _).symm.trans H; with_reducible exact H2_) | with_reducible exact H | (rw [bx]; exact H) | exact H
  have ca := kA9 bx
  clear bx
  obtain ⟨aq, bz⟩ : ∃ y_ : List Int, y_ = (([] : List Int)) := ⟨_, rfl⟩
  replace H : (if aq.length + l0_4.length < 17592186044416 then ((some (([] : List Int) : List Int)).bind fun am => (if am.length + l0_5.length < 17592186044416 then (some (aj, ak, a0_2, az, (aq ++ l0_4), (am ++ l0_5))) else (none))) else (none)) = some (r1, r2, r3, r4, r5, r6) := by first | (rw [bz]; with_reducible exact H) | (have H2_ := (Option.bind_some _ _).symm.trans H; rw [bz]; with_reducible exact H2_) | (have H2_ := (Option.bind_some _ _).symm.trans H; with_reducible exact H2_) | with_reducible exact H | (rw [bz]; exact H) | exact H
  have ay := kA9 bz
  clear bz
  by_cases c4 : aq.length + l0_4.length < 17592186044416
  ·rw [if_pos c4] at H
   have LMc4 := kA9 c4
   clear c4
   obtain ⟨b7, c0⟩ : ∃ y_ : List Int, y_ = (aq ++ l0_4) := ⟨_, rfl⟩
   replace H : ((some (([] : List Int) : List Int)).bind fun am => (if am.length + l0_5.length < 17592186044416 then (some (aj, ak, a0_2, az, b7, (am ++ l0_5))) else (none))) = some (r1, r2, r3, r4, r5, r6) := by first | (rw [c0]; with_reducible exact H) | (have H2_ := (Option.bind_some _ _).symm.trans H; rw [c0]; with_reducible exact H2_) | (have H2_ := (Option.bind_some _ _).symm.trans H; with_reducible exact H2_) | with_reducible exact H | (rw [c0]; exact H) | exact H
   have Ny144 := kA9 c0
   clear c0
   obtain ⟨am, c1⟩ : ∃ y_ : List Int, y_ = (([] : List Int)) := ⟨_, rfl⟩
   replace H : (if am.length + l0_5.length < 17592186044416 then (some (aj, ak, a0_2, az, b7, (am ++ l0_5))) else (none)) = some (r1, r2, r3, r4, r5, r6) := by first | (rw [c1]; with_reducible exact H) | (have H2_ := (Option.bind_some _ _).symm.trans H; rw [c1]; with_reducible exact H2_) | (have H2_ := (Option.bind_some _ _).symm.trans H; with_reducible exact H2_) | with_reducible exact H | (rw [c1]; exact H) | exact H
   have ax := kA9 c1
   clear c1
   by_cases c5 : am.length + l0_5.length < 17592186044416
   ·rw [if_pos c5] at H
    have LMc5 := kA9 c5
    clear c5
    obtain ⟨bn, c2⟩ : ∃ y_ : List Int, y_ = (am ++ l0_5) := ⟨_, rfl⟩
    replace H : (some (aj, ak, a0_2, az, b7, bn)) = some (r1, r2, r3, r4, r5, r6) := by first | (rw [c2]; with_reducible exact H) | (have H2_ := (Option.bind_some _ _).symm.trans H; rw [c2]; with_reducible exact H2_) | (have H2_ := (Option.bind_some _ _).symm.trans H; with_reducible exact H2_) | with_reducible exact H | (rw [c2]; exact H) | exact H
    have Ny150 := kA9 c2
    clear c2
    simp only [Option.some.injEq, Prod.mk.injEq] at H
    obtain ⟨rfl, rfl, rfl, rfl, rfl, rfl⟩ := H
    go_enter Try.func47, Try.ntmps47
    try go_wp2_with (first | ((with_reducible refine gate_dst (N := 1) rfl ?_); refine box_event ?hg (N := 1) ?hd (cs := #[.slice A0_0 l0_0.length c0_0, .slice A0_1 l0_1.length c0_1, .int .i64 a0_2, .slice A0_3 l0_3.length c0_3, .slice A0_4 l0_4.length c0_4, .slice A0_5 l0_5.length c0_5]) (t := 34) ?hr ?_; (case hd => rfl); (case hg => rfl); (case hr => first | (go_simp; done) | (go_simp; rfl)); intro a1 hg w6 hbox hb; have n0_ := kA9 (below_step (by repeat (first | (with_reducible first | exact HB.out | apply kA5 | apply kA3 | apply kA4) | exact HB.out)) hb); have n1_ := kA9 (hbox); have n2_ := kA9 ((by rw [hg]; exact (below_size (by repeat (first | (with_reducible first | exact HB.out | apply kA5 | apply kA3 | apply kA4) | exact HB.out))) : w.heap.size ≤ a1)); have n3_ := kA9 ((by rw [hg]; exact (below_size (by repeat (first | (with_reducible first | exact HB.out | apply kA5 | apply kA3 | apply kA4) | exact HB.out))) : w.heap.size ≤ a1)); clear HB; have HB := n0_; have a0 := n1_; have GW127 := n2_; have a4 := n3_; clear n0_ n1_ n2_ n3_; clear hb hbox hg) | ((with_reducible refine gate_dst (N := 2) rfl ?_); refine box_event ?hg (N := 2) ?hd (cs := #[.slice none 0 0, .slice none 0 0, .int .i64 0, .slice none 0 0, .slice none 0 0, .slice none 0 0]) (t := 34) ?hr ?_; (case hd => rfl); (case hg => rfl); (case hr => first | (go_simp; done) | (go_simp; rfl)); intro a3 hg w7 hbox hb; have n0_ := kA9 (blk_below (g := a1) (o := .cells #[.slice A0_0 l0_0.length c0_0, .slice A0_1 l0_1.length c0_1, .int .i64 a0_2, .slice A0_3 l0_3.length c0_3, .slice A0_4 l0_4.length c0_4, .slice A0_5 l0_5.length c0_5] 34 (0, 0)) (by (with_reducible repeat (first | refine kA6 ?_ _ | refine kA8 ?_ | refine kA7 ?_ _)); exact a0.out) hb); have n1_ := kA9 (below_step (by repeat (first | (with_reducible first | exact HB.out | apply kA5 | apply kA3 | apply kA4 | refine below_set ?_ a4.out) | exact HB.out)) hb); have n2_ := kA9 (hbox); have n3_ := kA9 ((by rw [hg]; exact (below_size (by repeat (first | (with_reducible first | exact HB.out | apply kA5 | apply kA3 | apply kA4 | refine below_set ?_ a4.out) | exact HB.out))) : w.heap.size ≤ a3)); have n4_ := kA9 ((by rw [hg]; exact (below_size (by repeat (first | (with_reducible first | exact HB.out | apply kA5 | apply kA3 | apply kA4 | refine below_set ?_ a4.out) | exact HB.out))) : w.heap.size ≤ a3)); have n5_ := kA9 ((by rw [hg]; exact Nat.ne_of_lt (blk_lt (g := a1) (o := .cells #[.slice A0_0 l0_0.length c0_0, .slice A0_1 l0_1.length c0_1, .int .i64 a0_2, .slice A0_3 l0_3.length c0_3, .slice A0_4 l0_4.length c0_4, .slice A0_5 l0_5.length c0_5] 34 (0, 0)) (by (with_reducible repeat (first | refine kA6 ?_ _ | refine kA8 ?_ | refine kA7 ?_ _)); exact a0.out)) : a1 ≠ a3)); have n6_ := kA9 ((by rw [hg]; exact Nat.ne_of_gt (blk_lt (g := a1) (o := .cells #[.slice A0_0 l0_0.length c0_0, .slice A0_1 l0_1.length c0_1, .int .i64 a0_2, .slice A0_3 l0_3.length c0_3, .slice A0_4 l0_4.length c0_4, .slice A0_5 l0_5.length c0_5] 34 (0, 0)) (by (with_reducible repeat (first | refine kA6 ?_ _ | refine kA8 ?_ | refine kA7 ?_ _)); exact a0.out)) : a3 ≠ a1)); clear a0; clear HB; have a0 := n0_; have HB := n1_; have a2 := n2_; have GW128 := n3_; have a5 := n4_; have ab := n5_; have b6 := n6_; clear n0_ n1_ n2_ n3_ n4_ n5_ n6_; clear hb hbox hg))
    have n0_ := kA9 (kA8 a0.out)
    have n1_ := kA9 (kA8 a2.out)
    have n2_ := kA9 (kA4 HB.out)
    clear a0
    clear a2
    clear HB
    have a0 := n0_
    have a2 := n1_
    have HB := n2_
    clear n0_ n1_ n2_
    refine start_ (n := 19) (S := fun w' => w'.cell? ⟨a1, 0, none⟩ = some (.slice A0_0 l0_0.length c0_0) ∧ w'.cell? ⟨a1, 1, none⟩ = some (.slice A0_1 l0_1.length c0_1) ∧ w'.cell? ⟨a1, 2, none⟩ = some (.int .i64 a0_2) ∧ w'.cell? ⟨a1, 3, none⟩ = some (.slice A0_3 l0_3.length c0_3) ∧ w'.cell? ⟨a1, 4, none⟩ = some (.slice A0_4 l0_4.length c0_4) ∧ w'.cell? ⟨a1, 5, none⟩ = some (.slice A0_5 l0_5.length c0_5)) (ds := []) #[false, false, false, false, false, false, false, false, false, false, false, false, false, false, false, false, false, false, false] (by kernel_rfl) rfl rfl ⟨(blk_cell a0.out 0).trans rfl, (blk_cell a0.out 1).trans rfl, (blk_cell a0.out 2).trans rfl, (blk_cell a0.out 3).trans rfl, (blk_cell a0.out 4).trans rfl, (blk_cell a0.out 5).trans rfl⟩ (fun hHeld => ?_); refine with_tabW spec_l08Copy.tab1 spec_l08Copy.bits1 (fun HT_ HW_ => ?_)
    generalize w7.drew = w8 at a0 a2 HB hHeld ⊢
    refine pure_ (i := 0) (N := some 3) (v := ?_) (a' := ?_) #[true, false, false, false, false, false, false, false, false, false, false, false, false, false, false, false, false, false, false] rfl rfl (any_of HT_.out (by kernel_rfl)) (fun _ _ _ h => h) (Or.inl ⟨by rfl, ?_⟩) ?_ ?_
    rotate_left
    ·intro w'
     go_simp
     with_reducible rfl
    rotate_left
    ·simp only [Act.put, sA0, sA1, sA2, i64_w, i32_w]
     rfl
    refine pure_ (i := 3) (N := some 6) (v := ?_) (a' := ?_) #[true, false, false, true, false, false, false, false, false, false, false, false, false, false, false, false, false, false, false] rfl rfl (any_of HT_.out (by kernel_rfl)) (fun _ _ _ h => h) (Or.inl ⟨by rfl, ?_⟩) ?_ ?_
    rotate_left
    ·intro w'
     go_simp
     with_reducible rfl
    rotate_left
    ·simp only [Act.put, sA0, sA1, sA2, i64_w, i32_w]
     rfl
    refine pure_ (i := 6) (N := some 9) (v := ?_) (a' := ?_) #[true, false, false, true, false, false, true, false, false, false, false, false, false, false, false, false, false, false, false] rfl rfl (any_of HT_.out (by kernel_rfl)) (fun _ _ _ h => h) (Or.inl ⟨by rfl, ?_⟩) ?_ ?_
    rotate_left
    ·intro w'
     go_simp
     with_reducible rfl
    rotate_left
    ·simp only [Act.put, sA0, sA1, sA2, i64_w, i32_w]
     rfl
    refine pure_ (i := 10) (N := some 13) (v := ?_) (a' := ?_) #[true, false, false, true, false, false, true, false, false, false, true, false, false, false, false, false, false, false, false] rfl rfl (any_of HT_.out (by kernel_rfl)) (fun _ _ _ h => h) (Or.inl ⟨by rfl, ?_⟩) ?_ ?_
    rotate_left
    ·intro w'
     go_simp
     with_reducible rfl
    rotate_left
    ·simp only [Act.put, sA0, sA1, sA2, i64_w, i32_w]
     rfl
    refine pure_ (i := 14) (N := some 17) (v := ?_) (a' := ?_) #[true, false, false, true, false, false, true, false, false, false, true, false, false, false, true, false, false, false, false] rfl rfl (any_of HT_.out (by kernel_rfl)) (fun _ _ _ h => h) (Or.inl ⟨by rfl, ?_⟩) ?_ ?_
    rotate_left
    ·intro w'
     go_simp
     with_reducible rfl
    rotate_left
    ·simp only [Act.put, sA0, sA1, sA2, i64_w, i32_w]
     rfl
    refine take_ (i := 1) (N := some 4) (v := ?_) (a' := ?_) #[true, true, false, true, false, false, true, false, false, false, true, false, false, false, true, false, false, false, false] rfl rfl (take_ofW HT_.out HW_.out (by kernel_rfl)) (fun _ _ _ h => h) (Or.inl ⟨by rfl, ?_⟩) hHeld ?_ ?_
    rotate_left
    ·rintro w' ⟨s0, s1, s2, s3, s4, s5⟩
     go_simp
     with_reducible rfl
    rotate_left
    ·simp only [Act.put, sA0, sA1, sA2, i64_w, i32_w]
     rfl
    refine take_ (i := 4) (N := some 7) (v := ?_) (a' := ?_) #[true, true, false, true, true, false, true, false, false, false, true, false, false, false, true, false, false, false, false] rfl rfl (take_ofW HT_.out HW_.out (by kernel_rfl)) (fun _ _ _ h => h) (Or.inl ⟨by rfl, ?_⟩) hHeld ?_ ?_
    rotate_left
    ·rintro w' ⟨s0, s1, s2, s3, s4, s5⟩
     go_simp
     with_reducible rfl
    rotate_left
    ·simp only [Act.put, sA0, sA1, sA2, i64_w, i32_w]
     rfl
    refine take_ (i := 7) (N := some 10) (v := ?_) (a' := ?_) #[true, true, false, true, true, false, true, true, false, false, true, false, false, false, true, false, false, false, false] rfl rfl (take_ofW HT_.out HW_.out (by kernel_rfl)) (fun _ _ _ h => h) (Or.inl ⟨by rfl, ?_⟩) hHeld ?_ ?_
    rotate_left
    ·rintro w' ⟨s0, s1, s2, s3, s4, s5⟩
     go_simp
     with_reducible rfl
    rotate_left
    ·simp only [Act.put, sA0, sA1, sA2, i64_w, i32_w]
     rfl
    refine take_ (i := 11) (N := some 14) (v := ?_) (a' := ?_) #[true, true, false, true, true, false, true, true, false, false, true, true, false, false, true, false, false, false, false] rfl rfl (take_ofW HT_.out HW_.out (by kernel_rfl)) (fun _ _ _ h => h) (Or.inl ⟨by rfl, ?_⟩) hHeld ?_ ?_
    rotate_left
    ·rintro w' ⟨s0, s1, s2, s3, s4, s5⟩
     go_simp
     with_reducible rfl
    rotate_left
    ·simp only [Act.put, sA0, sA1, sA2, i64_w, i32_w]
     rfl
    refine take_ (i := 15) (N := some 18) (v := ?_) (a' := ?_) #[true, true, false, true, true, false, true, true, false, false, true, true, false, false, true, true, false, false, false] rfl rfl (take_ofW HT_.out HW_.out (by kernel_rfl)) (fun _ _ _ h => h) (Or.inl ⟨by rfl, ?_⟩) hHeld ?_ ?_
    rotate_left
    ·rintro w' ⟨s0, s1, s2, s3, s4, s5⟩
     go_simp
     with_reducible rfl
    rotate_left
    ·simp only [Act.put, sA0, sA1, sA2, i64_w, i32_w]
     rfl
    refine join_ (σ := Value × Value × Value × Value × Value × Value × Value) 3 #[true, true, true, true, true, true, true, true, true, true, true, true, true, true, true, true, false, false, false] (fun s_ => [(5, .agg #[s_.1, s_.2.1]), (8, s_.2.2.1), (11, s_.2.2.2.1), (12, s_.2.2.2.2.1), (15, s_.2.2.2.2.2.1), (16, s_.2.2.2.2.2.2)]) (fun s_ w' => (w'.cell? ⟨a1, 0, none⟩ = some (.slice A0_0 l0_0.length c0_0) ∧ w'.cell? ⟨a1, 1, none⟩ = some (.slice A0_1 l0_1.length c0_1) ∧ w'.cell? ⟨a1, 2, none⟩ = some (.int .i64 a0_2) ∧ w'.cell? ⟨a1, 3, none⟩ = some (.slice A0_3 l0_3.length c0_3) ∧ w'.cell? ⟨a1, 4, none⟩ = some (.slice A0_4 l0_4.length c0_4) ∧ w'.cell? ⟨a1, 5, none⟩ = some (.slice A0_5 l0_5.length c0_5)) ∧ (Kd.R Kd.string 9 w' w.heap.size (fun _ => True) s_.1 aj) ∧ (Kd.R k135 135 w' w.heap.size (fun _ => True) s_.2.1 ak) ∧ (Kd.R (Kd.int .i64) 3 w' w.heap.size (fun k_ => some k_ ≠ (s_.2.2.2.2.2.1 : Value).ownBlock ∧ some k_ ≠ (s_.2.2.2.2.2.2 : Value).ownBlock) s_.2.2.2.1 az) ∧ (Kd.R (Kd.int .i64) 3 w' w.heap.size (fun k_ => some k_ ≠ (s_.2.2.2.1 : Value).ownBlock ∧ some k_ ≠ (s_.2.2.2.2.2.2 : Value).ownBlock) s_.2.2.2.2.2.1 b7) ∧ (Kd.R (Kd.int .i64) 3 w' w.heap.size (fun k_ => some k_ ≠ (s_.2.2.2.1 : Value).ownBlock ∧ some k_ ≠ (s_.2.2.2.2.2.1 : Value).ownBlock) s_.2.2.2.2.2.2 am) ∧ (w'.heap[a1]? = some (.cells #[.slice A0_0 l0_0.length c0_0, .slice A0_1 l0_1.length c0_1, .int .i64 a0_2, .slice A0_3 l0_3.length c0_3, .slice A0_4 l0_4.length c0_4, .slice A0_5 l0_5.length c0_5] 34 (0, 0))) ∧ (w'.heap[a3]? = some (.cells #[.slice none 0 0, .slice none 0 0, .int .i64 0, .slice none 0 0, .slice none 0 0, .slice none 0 0] 34 (0, 0))) ∧ (Below w.heap.size w w')) ?_ ?_
    rotate_left
    ·intro hJ2_5_8_9_12_13
     refine join_ (σ := Value × Value × Value × Value × Value × Value) 4 #[true, true, true, true, true, true, true, true, true, true, true, true, true, false, true, true, false, false, false] (fun s_ => [(5, .agg #[s_.1, s_.2.1]), (8, s_.2.2.1), (11, s_.2.2.2.1), (12, s_.2.2.2.2.1), (15, s_.2.2.2.2.2)]) (fun s_ w' => (w'.cell? ⟨a1, 0, none⟩ = some (.slice A0_0 l0_0.length c0_0) ∧ w'.cell? ⟨a1, 1, none⟩ = some (.slice A0_1 l0_1.length c0_1) ∧ w'.cell? ⟨a1, 2, none⟩ = some (.int .i64 a0_2) ∧ w'.cell? ⟨a1, 3, none⟩ = some (.slice A0_3 l0_3.length c0_3) ∧ w'.cell? ⟨a1, 4, none⟩ = some (.slice A0_4 l0_4.length c0_4) ∧ w'.cell? ⟨a1, 5, none⟩ = some (.slice A0_5 l0_5.length c0_5)) ∧ (Kd.R Kd.string 9 w' w.heap.size (fun _ => True) s_.1 aj) ∧ (Kd.R k135 135 w' w.heap.size (fun _ => True) s_.2.1 ak) ∧ (Kd.R (Kd.int .i64) 3 w' w.heap.size (fun k_ => some k_ ≠ (s_.2.2.2.2.2 : Value).ownBlock) s_.2.2.2.1 az) ∧ (Kd.R (Kd.int .i64) 3 w' w.heap.size (fun k_ => some k_ ≠ (s_.2.2.2.1 : Value).ownBlock) s_.2.2.2.2.2 b7) ∧ (w'.heap[a1]? = some (.cells #[.slice A0_0 l0_0.length c0_0, .slice A0_1 l0_1.length c0_1, .int .i64 a0_2, .slice A0_3 l0_3.length c0_3, .slice A0_4 l0_4.length c0_4, .slice A0_5 l0_5.length c0_5] 34 (0, 0))) ∧ (w'.heap[a3]? = some (.cells #[.slice none 0 0, .slice none 0 0, .int .i64 0, .slice none 0 0, .slice none 0 0, .slice none 0 0] 34 (0, 0))) ∧ (Below w.heap.size w w')) ?_ ?_
     rotate_left
     ·intro hJ2_5_8_9_12
      refine join_ (σ := Value × Value × Value × Value × Value × Value) 4 #[true, true, true, true, true, true, true, true, true, true, true, true, false, true, true, true, false, false, false] (fun s_ => [(5, .agg #[s_.1, s_.2.1]), (8, s_.2.2.1), (11, s_.2.2.2.1), (12, s_.2.2.2.2.1), (16, s_.2.2.2.2.2)]) (fun s_ w' => (w'.cell? ⟨a1, 0, none⟩ = some (.slice A0_0 l0_0.length c0_0) ∧ w'.cell? ⟨a1, 1, none⟩ = some (.slice A0_1 l0_1.length c0_1) ∧ w'.cell? ⟨a1, 2, none⟩ = some (.int .i64 a0_2) ∧ w'.cell? ⟨a1, 3, none⟩ = some (.slice A0_3 l0_3.length c0_3) ∧ w'.cell? ⟨a1, 4, none⟩ = some (.slice A0_4 l0_4.length c0_4) ∧ w'.cell? ⟨a1, 5, none⟩ = some (.slice A0_5 l0_5.length c0_5)) ∧ (Kd.R Kd.string 9 w' w.heap.size (fun _ => True) s_.1 aj) ∧ (Kd.R k135 135 w' w.heap.size (fun _ => True) s_.2.1 ak) ∧ (Kd.R (Kd.int .i64) 3 w' w.heap.size (fun k_ => some k_ ≠ (s_.2.2.2.2.1 : Value).ownBlock ∧ some k_ ≠ (s_.2.2.2.2.2 : Value).ownBlock) s_.2.2.2.1 az) ∧ (Kd.R (Kd.int .i64) 3 w' w.heap.size (fun k_ => some k_ ≠ (s_.2.2.2.1 : Value).ownBlock ∧ some k_ ≠ (s_.2.2.2.2.2 : Value).ownBlock) s_.2.2.2.2.1 aq) ∧ (Kd.R (Kd.int .i64) 3 w' w.heap.size (fun k_ => some k_ ≠ (s_.2.2.2.1 : Value).ownBlock ∧ some k_ ≠ (s_.2.2.2.2.1 : Value).ownBlock) s_.2.2.2.2.2 am) ∧ (w'.heap[a1]? = some (.cells #[.slice A0_0 l0_0.length c0_0, .slice A0_1 l0_1.length c0_1, .int .i64 a0_2, .slice A0_3 l0_3.length c0_3, .slice A0_4 l0_4.length c0_4, .slice A0_5 l0_5.length c0_5] 34 (0, 0))) ∧ (w'.heap[a3]? = some (.cells #[.slice none 0 0, .slice none 0 0, .int .i64 0, .slice none 0 0, .slice none 0 0, .slice none 0 0] 34 (0, 0))) ∧ (Below w.heap.size w w')) ?_ ?_
      rotate_left
      ·intro ba
       refine join_ (σ := Value × Value × Value × Value × Value) 5 #[true, true, true, true, true, true, true, true, true, true, true, true, false, false, true, true, false, false, false] (fun s_ => [(5, .agg #[s_.1, s_.2.1]), (8, s_.2.2.1), (11, s_.2.2.2.1), (12, s_.2.2.2.2)]) (fun s_ w' => (w'.cell? ⟨a1, 0, none⟩ = some (.slice A0_0 l0_0.length c0_0) ∧ w'.cell? ⟨a1, 1, none⟩ = some (.slice A0_1 l0_1.length c0_1) ∧ w'.cell? ⟨a1, 2, none⟩ = some (.int .i64 a0_2) ∧ w'.cell? ⟨a1, 3, none⟩ = some (.slice A0_3 l0_3.length c0_3) ∧ w'.cell? ⟨a1, 4, none⟩ = some (.slice A0_4 l0_4.length c0_4) ∧ w'.cell? ⟨a1, 5, none⟩ = some (.slice A0_5 l0_5.length c0_5)) ∧ (Kd.R Kd.string 9 w' w.heap.size (fun _ => True) s_.1 aj) ∧ (Kd.R k135 135 w' w.heap.size (fun _ => True) s_.2.1 ak) ∧ (Kd.R (Kd.int .i64) 3 w' w.heap.size (fun k_ => some k_ ≠ (s_.2.2.2.2 : Value).ownBlock) s_.2.2.2.1 az) ∧ (Kd.R (Kd.int .i64) 3 w' w.heap.size (fun k_ => some k_ ≠ (s_.2.2.2.1 : Value).ownBlock) s_.2.2.2.2 aq) ∧ (w'.heap[a1]? = some (.cells #[.slice A0_0 l0_0.length c0_0, .slice A0_1 l0_1.length c0_1, .int .i64 a0_2, .slice A0_3 l0_3.length c0_3, .slice A0_4 l0_4.length c0_4, .slice A0_5 l0_5.length c0_5] 34 (0, 0))) ∧ (w'.heap[a3]? = some (.cells #[.slice none 0 0, .slice none 0 0, .int .i64 0, .slice none 0 0, .slice none 0 0, .slice none 0 0] 34 (0, 0))) ∧ (Below w.heap.size w w')) ?_ ?_
       rotate_left
       ·intro hJ2_5_8_9
        refine join_ (σ := Value × Value × Value × Value × Value) 5 #[true, true, true, true, true, true, true, true, true, false, true, true, false, true, true, true, false, false, false] (fun s_ => [(5, .agg #[s_.1, s_.2.1]), (8, s_.2.2.1), (11, s_.2.2.2.1), (16, s_.2.2.2.2)]) (fun s_ w' => (w'.cell? ⟨a1, 0, none⟩ = some (.slice A0_0 l0_0.length c0_0) ∧ w'.cell? ⟨a1, 1, none⟩ = some (.slice A0_1 l0_1.length c0_1) ∧ w'.cell? ⟨a1, 2, none⟩ = some (.int .i64 a0_2) ∧ w'.cell? ⟨a1, 3, none⟩ = some (.slice A0_3 l0_3.length c0_3) ∧ w'.cell? ⟨a1, 4, none⟩ = some (.slice A0_4 l0_4.length c0_4) ∧ w'.cell? ⟨a1, 5, none⟩ = some (.slice A0_5 l0_5.length c0_5)) ∧ (Kd.R Kd.string 9 w' w.heap.size (fun _ => True) s_.1 aj) ∧ (Kd.R k135 135 w' w.heap.size (fun _ => True) s_.2.1 ak) ∧ (Kd.R (Kd.int .i64) 3 w' w.heap.size (fun k_ => some k_ ≠ (s_.2.2.2.2 : Value).ownBlock) s_.2.2.2.1 az) ∧ (Kd.R (Kd.int .i64) 3 w' w.heap.size (fun k_ => some k_ ≠ (s_.2.2.2.1 : Value).ownBlock) s_.2.2.2.2 am) ∧ (w'.heap[a1]? = some (.cells #[.slice A0_0 l0_0.length c0_0, .slice A0_1 l0_1.length c0_1, .int .i64 a0_2, .slice A0_3 l0_3.length c0_3, .slice A0_4 l0_4.length c0_4, .slice A0_5 l0_5.length c0_5] 34 (0, 0))) ∧ (w'.heap[a3]? = some (.cells #[.slice none 0 0, .slice none 0 0, .int .i64 0, .slice none 0 0, .slice none 0 0, .slice none 0 0] 34 (0, 0))) ∧ (Below w.heap.size w w')) ?_ ?_
        rotate_left
        ·intro hJ2_5_8_13
         refine join_ (σ := Value × Value × Value × Value × Value) 5 #[true, true, true, true, true, true, true, true, false, true, true, true, false, true, true, true, false, false, false] (fun s_ => [(5, .agg #[s_.1, s_.2.1]), (8, s_.2.2.1), (12, s_.2.2.2.1), (16, s_.2.2.2.2)]) (fun s_ w' => (w'.cell? ⟨a1, 0, none⟩ = some (.slice A0_0 l0_0.length c0_0) ∧ w'.cell? ⟨a1, 1, none⟩ = some (.slice A0_1 l0_1.length c0_1) ∧ w'.cell? ⟨a1, 2, none⟩ = some (.int .i64 a0_2) ∧ w'.cell? ⟨a1, 3, none⟩ = some (.slice A0_3 l0_3.length c0_3) ∧ w'.cell? ⟨a1, 4, none⟩ = some (.slice A0_4 l0_4.length c0_4) ∧ w'.cell? ⟨a1, 5, none⟩ = some (.slice A0_5 l0_5.length c0_5)) ∧ (Kd.R Kd.string 9 w' w.heap.size (fun _ => True) s_.1 aj) ∧ (Kd.R k135 135 w' w.heap.size (fun _ => True) s_.2.1 ak) ∧ (Kd.R (Kd.int .i64) 3 w' w.heap.size (fun k_ => some k_ ≠ (s_.2.2.2.1 : Value).ownBlock ∧ some k_ ≠ (s_.2.2.2.2 : Value).ownBlock) s_.2.2.1 av) ∧ (Kd.R (Kd.int .i64) 3 w' w.heap.size (fun k_ => some k_ ≠ (s_.2.2.1 : Value).ownBlock ∧ some k_ ≠ (s_.2.2.2.2 : Value).ownBlock) s_.2.2.2.1 aq) ∧ (Kd.R (Kd.int .i64) 3 w' w.heap.size (fun k_ => some k_ ≠ (s_.2.2.1 : Value).ownBlock ∧ some k_ ≠ (s_.2.2.2.1 : Value).ownBlock) s_.2.2.2.2 am) ∧ (w'.heap[a1]? = some (.cells #[.slice A0_0 l0_0.length c0_0, .slice A0_1 l0_1.length c0_1, .int .i64 a0_2, .slice A0_3 l0_3.length c0_3, .slice A0_4 l0_4.length c0_4, .slice A0_5 l0_5.length c0_5] 34 (0, 0))) ∧ (w'.heap[a3]? = some (.cells #[.slice none 0 0, .slice none 0 0, .int .i64 0, .slice none 0 0, .slice none 0 0, .slice none 0 0] 34 (0, 0))) ∧ (Below w.heap.size w w')) ?_ ?_
         rotate_left
         ·intro b9
          refine join_ (σ := Value × Value × Value × Value) 6 #[true, true, true, true, true, true, true, true, true, false, true, true, false, false, true, true, false, false, false] (fun s_ => [(5, .agg #[s_.1, s_.2.1]), (8, s_.2.2.1), (11, s_.2.2.2)]) (fun s_ w' => (w'.cell? ⟨a1, 0, none⟩ = some (.slice A0_0 l0_0.length c0_0) ∧ w'.cell? ⟨a1, 1, none⟩ = some (.slice A0_1 l0_1.length c0_1) ∧ w'.cell? ⟨a1, 2, none⟩ = some (.int .i64 a0_2) ∧ w'.cell? ⟨a1, 3, none⟩ = some (.slice A0_3 l0_3.length c0_3) ∧ w'.cell? ⟨a1, 4, none⟩ = some (.slice A0_4 l0_4.length c0_4) ∧ w'.cell? ⟨a1, 5, none⟩ = some (.slice A0_5 l0_5.length c0_5)) ∧ (Kd.R Kd.string 9 w' w.heap.size (fun _ => True) s_.1 aj) ∧ (Kd.R k135 135 w' w.heap.size (fun _ => True) s_.2.1 ak) ∧ (Kd.R (Kd.int .i64) 3 w' w.heap.size (fun _ => True) s_.2.2.2 az) ∧ (w'.heap[a1]? = some (.cells #[.slice A0_0 l0_0.length c0_0, .slice A0_1 l0_1.length c0_1, .int .i64 a0_2, .slice A0_3 l0_3.length c0_3, .slice A0_4 l0_4.length c0_4, .slice A0_5 l0_5.length c0_5] 34 (0, 0))) ∧ (w'.heap[a3]? = some (.cells #[.slice none 0 0, .slice none 0 0, .int .i64 0, .slice none 0 0, .slice none 0 0, .slice none 0 0] 34 (0, 0))) ∧ (Below w.heap.size w w')) ?_ ?_
          rotate_left
          ·intro hJ2_5_8
           refine join_ (σ := Value × Value × Value × Value) 6 #[true, true, true, true, true, true, true, true, false, true, true, true, false, false, true, true, false, false, false] (fun s_ => [(5, .agg #[s_.1, s_.2.1]), (8, s_.2.2.1), (12, s_.2.2.2)]) (fun s_ w' => (w'.cell? ⟨a1, 0, none⟩ = some (.slice A0_0 l0_0.length c0_0) ∧ w'.cell? ⟨a1, 1, none⟩ = some (.slice A0_1 l0_1.length c0_1) ∧ w'.cell? ⟨a1, 2, none⟩ = some (.int .i64 a0_2) ∧ w'.cell? ⟨a1, 3, none⟩ = some (.slice A0_3 l0_3.length c0_3) ∧ w'.cell? ⟨a1, 4, none⟩ = some (.slice A0_4 l0_4.length c0_4) ∧ w'.cell? ⟨a1, 5, none⟩ = some (.slice A0_5 l0_5.length c0_5)) ∧ (Kd.R Kd.string 9 w' w.heap.size (fun _ => True) s_.1 aj) ∧ (Kd.R k135 135 w' w.heap.size (fun _ => True) s_.2.1 ak) ∧ (Kd.R (Kd.int .i64) 3 w' w.heap.size (fun k_ => some k_ ≠ (s_.2.2.2 : Value).ownBlock) s_.2.2.1 av) ∧ (Kd.R (Kd.int .i64) 3 w' w.heap.size (fun k_ => some k_ ≠ (s_.2.2.1 : Value).ownBlock) s_.2.2.2 aq) ∧ (w'.heap[a1]? = some (.cells #[.slice A0_0 l0_0.length c0_0, .slice A0_1 l0_1.length c0_1, .int .i64 a0_2, .slice A0_3 l0_3.length c0_3, .slice A0_4 l0_4.length c0_4, .slice A0_5 l0_5.length c0_5] 34 (0, 0))) ∧ (w'.heap[a3]? = some (.cells #[.slice none 0 0, .slice none 0 0, .int .i64 0, .slice none 0 0, .slice none 0 0, .slice none 0 0] 34 (0, 0))) ∧ (Below w.heap.size w w')) ?_ ?_
           rotate_left
           ·intro c6
            refine join_ (σ := Value × Value × Value × Value) 6 #[true, true, true, true, true, true, true, true, false, false, true, true, false, true, true, true, false, false, false] (fun s_ => [(5, .agg #[s_.1, s_.2.1]), (8, s_.2.2.1), (16, s_.2.2.2)]) (fun s_ w' => (w'.cell? ⟨a1, 0, none⟩ = some (.slice A0_0 l0_0.length c0_0) ∧ w'.cell? ⟨a1, 1, none⟩ = some (.slice A0_1 l0_1.length c0_1) ∧ w'.cell? ⟨a1, 2, none⟩ = some (.int .i64 a0_2) ∧ w'.cell? ⟨a1, 3, none⟩ = some (.slice A0_3 l0_3.length c0_3) ∧ w'.cell? ⟨a1, 4, none⟩ = some (.slice A0_4 l0_4.length c0_4) ∧ w'.cell? ⟨a1, 5, none⟩ = some (.slice A0_5 l0_5.length c0_5)) ∧ (Kd.R Kd.string 9 w' w.heap.size (fun _ => True) s_.1 aj) ∧ (Kd.R k135 135 w' w.heap.size (fun _ => True) s_.2.1 ak) ∧ (Kd.R (Kd.int .i64) 3 w' w.heap.size (fun k_ => some k_ ≠ (s_.2.2.2 : Value).ownBlock) s_.2.2.1 av) ∧ (Kd.R (Kd.int .i64) 3 w' w.heap.size (fun k_ => some k_ ≠ (s_.2.2.1 : Value).ownBlock) s_.2.2.2 am) ∧ (w'.heap[a1]? = some (.cells #[.slice A0_0 l0_0.length c0_0, .slice A0_1 l0_1.length c0_1, .int .i64 a0_2, .slice A0_3 l0_3.length c0_3, .slice A0_4 l0_4.length c0_4, .slice A0_5 l0_5.length c0_5] 34 (0, 0))) ∧ (w'.heap[a3]? = some (.cells #[.slice none 0 0, .slice none 0 0, .int .i64 0, .slice none 0 0, .slice none 0 0, .slice none 0 0] 34 (0, 0))) ∧ (Below w.heap.size w w')) ?_ ?_
            rotate_left
            ·intro bp
             refine join_ (σ := Value × Value × Value × Value) 6 #[true, true, true, true, true, false, true, true, false, true, true, true, false, true, true, true, false, false, false] (fun s_ => [(5, .agg #[s_.1, s_.2.1]), (12, s_.2.2.1), (16, s_.2.2.2)]) (fun s_ w' => (w'.cell? ⟨a1, 0, none⟩ = some (.slice A0_0 l0_0.length c0_0) ∧ w'.cell? ⟨a1, 1, none⟩ = some (.slice A0_1 l0_1.length c0_1) ∧ w'.cell? ⟨a1, 2, none⟩ = some (.int .i64 a0_2) ∧ w'.cell? ⟨a1, 3, none⟩ = some (.slice A0_3 l0_3.length c0_3) ∧ w'.cell? ⟨a1, 4, none⟩ = some (.slice A0_4 l0_4.length c0_4) ∧ w'.cell? ⟨a1, 5, none⟩ = some (.slice A0_5 l0_5.length c0_5)) ∧ (Kd.R Kd.string 9 w' w.heap.size (fun _ => True) s_.1 aj) ∧ (Kd.R k135 135 w' w.heap.size (fun _ => True) s_.2.1 ak) ∧ (Kd.R (Kd.int .i64) 3 w' w.heap.size (fun k_ => some k_ ≠ (s_.2.2.2 : Value).ownBlock) s_.2.2.1 aq) ∧ (Kd.R (Kd.int .i64) 3 w' w.heap.size (fun k_ => some k_ ≠ (s_.2.2.1 : Value).ownBlock) s_.2.2.2 am) ∧ (w'.heap[a1]? = some (.cells #[.slice A0_0 l0_0.length c0_0, .slice A0_1 l0_1.length c0_1, .int .i64 a0_2, .slice A0_3 l0_3.length c0_3, .slice A0_4 l0_4.length c0_4, .slice A0_5 l0_5.length c0_5] 34 (0, 0))) ∧ (w'.heap[a3]? = some (.cells #[.slice none 0 0, .slice none 0 0, .int .i64 0, .slice none 0 0, .slice none 0 0, .slice none 0 0] 34 (0, 0))) ∧ (Below w.heap.size w w')) ?_ ?_
             rotate_left
             ·intro bq
              refine join_ (σ := Value × Value × Value) 6 #[true, true, false, true, true, true, true, true, false, true, true, true, false, true, true, true, false, false, false] (fun s_ => [(8, s_.1), (12, s_.2.1), (16, s_.2.2)]) (fun s_ w' => (w'.cell? ⟨a1, 0, none⟩ = some (.slice A0_0 l0_0.length c0_0) ∧ w'.cell? ⟨a1, 1, none⟩ = some (.slice A0_1 l0_1.length c0_1) ∧ w'.cell? ⟨a1, 2, none⟩ = some (.int .i64 a0_2) ∧ w'.cell? ⟨a1, 3, none⟩ = some (.slice A0_3 l0_3.length c0_3) ∧ w'.cell? ⟨a1, 4, none⟩ = some (.slice A0_4 l0_4.length c0_4) ∧ w'.cell? ⟨a1, 5, none⟩ = some (.slice A0_5 l0_5.length c0_5)) ∧ (Kd.R (Kd.int .i64) 3 w' w.heap.size (fun k_ => some k_ ≠ (s_.2.1 : Value).ownBlock ∧ some k_ ≠ (s_.2.2 : Value).ownBlock) s_.1 av) ∧ (Kd.R (Kd.int .i64) 3 w' w.heap.size (fun k_ => some k_ ≠ (s_.1 : Value).ownBlock ∧ some k_ ≠ (s_.2.2 : Value).ownBlock) s_.2.1 aq) ∧ (Kd.R (Kd.int .i64) 3 w' w.heap.size (fun k_ => some k_ ≠ (s_.1 : Value).ownBlock ∧ some k_ ≠ (s_.2.1 : Value).ownBlock) s_.2.2 am) ∧ (w'.heap[a1]? = some (.cells #[.slice A0_0 l0_0.length c0_0, .slice A0_1 l0_1.length c0_1, .int .i64 a0_2, .slice A0_3 l0_3.length c0_3, .slice A0_4 l0_4.length c0_4, .slice A0_5 l0_5.length c0_5] 34 (0, 0))) ∧ (w'.heap[a3]? = some (.cells #[.slice none 0 0, .slice none 0 0, .int .i64 0, .slice none 0 0, .slice none 0 0, .slice none 0 0] 34 (0, 0))) ∧ (Below w.heap.size w w')) ?_ ?_
              rotate_left
              ·intro br
               refine join_ (σ := Value × Value × Value) 7 #[true, true, true, true, true, true, true, true, false, false, true, true, false, false, true, true, false, false, false] (fun s_ => [(5, .agg #[s_.1, s_.2.1]), (8, s_.2.2)]) (fun s_ w' => (w'.cell? ⟨a1, 0, none⟩ = some (.slice A0_0 l0_0.length c0_0) ∧ w'.cell? ⟨a1, 1, none⟩ = some (.slice A0_1 l0_1.length c0_1) ∧ w'.cell? ⟨a1, 2, none⟩ = some (.int .i64 a0_2) ∧ w'.cell? ⟨a1, 3, none⟩ = some (.slice A0_3 l0_3.length c0_3) ∧ w'.cell? ⟨a1, 4, none⟩ = some (.slice A0_4 l0_4.length c0_4) ∧ w'.cell? ⟨a1, 5, none⟩ = some (.slice A0_5 l0_5.length c0_5)) ∧ (Kd.R Kd.string 9 w' w.heap.size (fun _ => True) s_.1 aj) ∧ (Kd.R k135 135 w' w.heap.size (fun _ => True) s_.2.1 ak) ∧ (Kd.R (Kd.int .i64) 3 w' w.heap.size (fun _ => True) s_.2.2 av) ∧ (w'.heap[a1]? = some (.cells #[.slice A0_0 l0_0.length c0_0, .slice A0_1 l0_1.length c0_1, .int .i64 a0_2, .slice A0_3 l0_3.length c0_3, .slice A0_4 l0_4.length c0_4, .slice A0_5 l0_5.length c0_5] 34 (0, 0))) ∧ (w'.heap[a3]? = some (.cells #[.slice none 0 0, .slice none 0 0, .int .i64 0, .slice none 0 0, .slice none 0 0, .slice none 0 0] 34 (0, 0))) ∧ (Below w.heap.size w w')) ?_ ?_
               rotate_left
               ·intro hJ2_5
                refine join_ (σ := Value × Value × Value) 7 #[true, true, true, true, true, false, true, true, false, true, true, true, false, false, true, true, false, false, false] (fun s_ => [(5, .agg #[s_.1, s_.2.1]), (12, s_.2.2)]) (fun s_ w' => (w'.cell? ⟨a1, 0, none⟩ = some (.slice A0_0 l0_0.length c0_0) ∧ w'.cell? ⟨a1, 1, none⟩ = some (.slice A0_1 l0_1.length c0_1) ∧ w'.cell? ⟨a1, 2, none⟩ = some (.int .i64 a0_2) ∧ w'.cell? ⟨a1, 3, none⟩ = some (.slice A0_3 l0_3.length c0_3) ∧ w'.cell? ⟨a1, 4, none⟩ = some (.slice A0_4 l0_4.length c0_4) ∧ w'.cell? ⟨a1, 5, none⟩ = some (.slice A0_5 l0_5.length c0_5)) ∧ (Kd.R Kd.string 9 w' w.heap.size (fun _ => True) s_.1 aj) ∧ (Kd.R k135 135 w' w.heap.size (fun _ => True) s_.2.1 ak) ∧ (Kd.R (Kd.int .i64) 3 w' w.heap.size (fun _ => True) s_.2.2 aq) ∧ (w'.heap[a1]? = some (.cells #[.slice A0_0 l0_0.length c0_0, .slice A0_1 l0_1.length c0_1, .int .i64 a0_2, .slice A0_3 l0_3.length c0_3, .slice A0_4 l0_4.length c0_4, .slice A0_5 l0_5.length c0_5] 34 (0, 0))) ∧ (w'.heap[a3]? = some (.cells #[.slice none 0 0, .slice none 0 0, .int .i64 0, .slice none 0 0, .slice none 0 0, .slice none 0 0] 34 (0, 0))) ∧ (Below w.heap.size w w')) ?_ ?_
                rotate_left
                ·intro hJ2_9
                 refine join_ (σ := Value × Value × Value) 7 #[true, true, true, true, true, false, true, true, false, false, true, true, false, true, true, true, false, false, false] (fun s_ => [(5, .agg #[s_.1, s_.2.1]), (16, s_.2.2)]) (fun s_ w' => (w'.cell? ⟨a1, 0, none⟩ = some (.slice A0_0 l0_0.length c0_0) ∧ w'.cell? ⟨a1, 1, none⟩ = some (.slice A0_1 l0_1.length c0_1) ∧ w'.cell? ⟨a1, 2, none⟩ = some (.int .i64 a0_2) ∧ w'.cell? ⟨a1, 3, none⟩ = some (.slice A0_3 l0_3.length c0_3) ∧ w'.cell? ⟨a1, 4, none⟩ = some (.slice A0_4 l0_4.length c0_4) ∧ w'.cell? ⟨a1, 5, none⟩ = some (.slice A0_5 l0_5.length c0_5)) ∧ (Kd.R Kd.string 9 w' w.heap.size (fun _ => True) s_.1 aj) ∧ (Kd.R k135 135 w' w.heap.size (fun _ => True) s_.2.1 ak) ∧ (Kd.R (Kd.int .i64) 3 w' w.heap.size (fun _ => True) s_.2.2 am) ∧ (w'.heap[a1]? = some (.cells #[.slice A0_0 l0_0.length c0_0, .slice A0_1 l0_1.length c0_1, .int .i64 a0_2, .slice A0_3 l0_3.length c0_3, .slice A0_4 l0_4.length c0_4, .slice A0_5 l0_5.length c0_5] 34 (0, 0))) ∧ (w'.heap[a3]? = some (.cells #[.slice none 0 0, .slice none 0 0, .int .i64 0, .slice none 0 0, .slice none 0 0, .slice none 0 0] 34 (0, 0))) ∧ (Below w.heap.size w w')) ?_ ?_
                 rotate_left
                 ·intro hJ2_13
                  refine join_ (σ := Value × Value) 7 #[true, true, false, true, true, true, true, true, false, true, true, true, false, false, true, true, false, false, false] (fun s_ => [(8, s_.1), (12, s_.2)]) (fun s_ w' => (w'.cell? ⟨a1, 0, none⟩ = some (.slice A0_0 l0_0.length c0_0) ∧ w'.cell? ⟨a1, 1, none⟩ = some (.slice A0_1 l0_1.length c0_1) ∧ w'.cell? ⟨a1, 2, none⟩ = some (.int .i64 a0_2) ∧ w'.cell? ⟨a1, 3, none⟩ = some (.slice A0_3 l0_3.length c0_3) ∧ w'.cell? ⟨a1, 4, none⟩ = some (.slice A0_4 l0_4.length c0_4) ∧ w'.cell? ⟨a1, 5, none⟩ = some (.slice A0_5 l0_5.length c0_5)) ∧ (Kd.R (Kd.int .i64) 3 w' w.heap.size (fun k_ => some k_ ≠ (s_.2 : Value).ownBlock) s_.1 av) ∧ (Kd.R (Kd.int .i64) 3 w' w.heap.size (fun k_ => some k_ ≠ (s_.1 : Value).ownBlock) s_.2 aq) ∧ (w'.heap[a1]? = some (.cells #[.slice A0_0 l0_0.length c0_0, .slice A0_1 l0_1.length c0_1, .int .i64 a0_2, .slice A0_3 l0_3.length c0_3, .slice A0_4 l0_4.length c0_4, .slice A0_5 l0_5.length c0_5] 34 (0, 0))) ∧ (w'.heap[a3]? = some (.cells #[.slice none 0 0, .slice none 0 0, .int .i64 0, .slice none 0 0, .slice none 0 0, .slice none 0 0] 34 (0, 0))) ∧ (Below w.heap.size w w')) ?_ ?_
                  rotate_left
                  ·intro hJ5_9
                   refine join_ (σ := Value × Value) 7 #[true, true, false, true, true, true, true, true, false, false, true, true, false, true, true, true, false, false, false] (fun s_ => [(8, s_.1), (16, s_.2)]) (fun s_ w' => (w'.cell? ⟨a1, 0, none⟩ = some (.slice A0_0 l0_0.length c0_0) ∧ w'.cell? ⟨a1, 1, none⟩ = some (.slice A0_1 l0_1.length c0_1) ∧ w'.cell? ⟨a1, 2, none⟩ = some (.int .i64 a0_2) ∧ w'.cell? ⟨a1, 3, none⟩ = some (.slice A0_3 l0_3.length c0_3) ∧ w'.cell? ⟨a1, 4, none⟩ = some (.slice A0_4 l0_4.length c0_4) ∧ w'.cell? ⟨a1, 5, none⟩ = some (.slice A0_5 l0_5.length c0_5)) ∧ (Kd.R (Kd.int .i64) 3 w' w.heap.size (fun k_ => some k_ ≠ (s_.2 : Value).ownBlock) s_.1 av) ∧ (Kd.R (Kd.int .i64) 3 w' w.heap.size (fun k_ => some k_ ≠ (s_.1 : Value).ownBlock) s_.2 am) ∧ (w'.heap[a1]? = some (.cells #[.slice A0_0 l0_0.length c0_0, .slice A0_1 l0_1.length c0_1, .int .i64 a0_2, .slice A0_3 l0_3.length c0_3, .slice A0_4 l0_4.length c0_4, .slice A0_5 l0_5.length c0_5] 34 (0, 0))) ∧ (w'.heap[a3]? = some (.cells #[.slice none 0 0, .slice none 0 0, .int .i64 0, .slice none 0 0, .slice none 0 0, .slice none 0 0] 34 (0, 0))) ∧ (Below w.heap.size w w')) ?_ ?_
                   rotate_left
                   ·intro hJ5_13
                    refine join_ (σ := Value × Value) 7 #[true, true, false, true, true, false, true, true, false, true, true, true, false, true, true, true, false, false, false] (fun s_ => [(12, s_.1), (16, s_.2)]) (fun s_ w' => (w'.cell? ⟨a1, 0, none⟩ = some (.slice A0_0 l0_0.length c0_0) ∧ w'.cell? ⟨a1, 1, none⟩ = some (.slice A0_1 l0_1.length c0_1) ∧ w'.cell? ⟨a1, 2, none⟩ = some (.int .i64 a0_2) ∧ w'.cell? ⟨a1, 3, none⟩ = some (.slice A0_3 l0_3.length c0_3) ∧ w'.cell? ⟨a1, 4, none⟩ = some (.slice A0_4 l0_4.length c0_4) ∧ w'.cell? ⟨a1, 5, none⟩ = some (.slice A0_5 l0_5.length c0_5)) ∧ (Kd.R (Kd.int .i64) 3 w' w.heap.size (fun k_ => some k_ ≠ (s_.2 : Value).ownBlock) s_.1 aq) ∧ (Kd.R (Kd.int .i64) 3 w' w.heap.size (fun k_ => some k_ ≠ (s_.1 : Value).ownBlock) s_.2 am) ∧ (w'.heap[a1]? = some (.cells #[.slice A0_0 l0_0.length c0_0, .slice A0_1 l0_1.length c0_1, .int .i64 a0_2, .slice A0_3 l0_3.length c0_3, .slice A0_4 l0_4.length c0_4, .slice A0_5 l0_5.length c0_5] 34 (0, 0))) ∧ (w'.heap[a3]? = some (.cells #[.slice none 0 0, .slice none 0 0, .int .i64 0, .slice none 0 0, .slice none 0 0, .slice none 0 0] 34 (0, 0))) ∧ (Below w.heap.size w w')) ?_ ?_
                    rotate_left
                    ·intro hJ9_13
                     refine join_ (σ := Value × Value) 8 #[true, true, true, true, true, false, true, true, false, false, true, true, false, false, true, true, false, false, false] (fun s_ => [(5, .agg #[s_.1, s_.2])]) (fun s_ w' => (w'.cell? ⟨a1, 0, none⟩ = some (.slice A0_0 l0_0.length c0_0) ∧ w'.cell? ⟨a1, 1, none⟩ = some (.slice A0_1 l0_1.length c0_1) ∧ w'.cell? ⟨a1, 2, none⟩ = some (.int .i64 a0_2) ∧ w'.cell? ⟨a1, 3, none⟩ = some (.slice A0_3 l0_3.length c0_3) ∧ w'.cell? ⟨a1, 4, none⟩ = some (.slice A0_4 l0_4.length c0_4) ∧ w'.cell? ⟨a1, 5, none⟩ = some (.slice A0_5 l0_5.length c0_5)) ∧ (Kd.R Kd.string 9 w' w.heap.size (fun _ => True) s_.1 aj) ∧ (Kd.R k135 135 w' w.heap.size (fun _ => True) s_.2 ak) ∧ (w'.heap[a1]? = some (.cells #[.slice A0_0 l0_0.length c0_0, .slice A0_1 l0_1.length c0_1, .int .i64 a0_2, .slice A0_3 l0_3.length c0_3, .slice A0_4 l0_4.length c0_4, .slice A0_5 l0_5.length c0_5] 34 (0, 0))) ∧ (w'.heap[a3]? = some (.cells #[.slice none 0 0, .slice none 0 0, .int .i64 0, .slice none 0 0, .slice none 0 0, .slice none 0 0] 34 (0, 0))) ∧ (Below w.heap.size w w')) ?_ ?_
                     rotate_left
                     ·intro hJ2
                      refine join_ (σ := Value) 8 #[true, true, false, true, true, true, true, true, false, false, true, true, false, false, true, true, false, false, false] (fun s_ => [(8, s_)]) (fun s_ w' => (w'.cell? ⟨a1, 0, none⟩ = some (.slice A0_0 l0_0.length c0_0) ∧ w'.cell? ⟨a1, 1, none⟩ = some (.slice A0_1 l0_1.length c0_1) ∧ w'.cell? ⟨a1, 2, none⟩ = some (.int .i64 a0_2) ∧ w'.cell? ⟨a1, 3, none⟩ = some (.slice A0_3 l0_3.length c0_3) ∧ w'.cell? ⟨a1, 4, none⟩ = some (.slice A0_4 l0_4.length c0_4) ∧ w'.cell? ⟨a1, 5, none⟩ = some (.slice A0_5 l0_5.length c0_5)) ∧ (Kd.R (Kd.int .i64) 3 w' w.heap.size (fun _ => True) s_ av) ∧ (w'.heap[a1]? = some (.cells #[.slice A0_0 l0_0.length c0_0, .slice A0_1 l0_1.length c0_1, .int .i64 a0_2, .slice A0_3 l0_3.length c0_3, .slice A0_4 l0_4.length c0_4, .slice A0_5 l0_5.length c0_5] 34 (0, 0))) ∧ (w'.heap[a3]? = some (.cells #[.slice none 0 0, .slice none 0 0, .int .i64 0, .slice none 0 0, .slice none 0 0, .slice none 0 0] 34 (0, 0))) ∧ (Below w.heap.size w w')) ?_ ?_
                      rotate_left
                      ·intro hJ5
                       refine join_ (σ := Value) 8 #[true, true, false, true, true, false, true, true, false, true, true, true, false, false, true, true, false, false, false] (fun s_ => [(12, s_)]) (fun s_ w' => (w'.cell? ⟨a1, 0, none⟩ = some (.slice A0_0 l0_0.length c0_0) ∧ w'.cell? ⟨a1, 1, none⟩ = some (.slice A0_1 l0_1.length c0_1) ∧ w'.cell? ⟨a1, 2, none⟩ = some (.int .i64 a0_2) ∧ w'.cell? ⟨a1, 3, none⟩ = some (.slice A0_3 l0_3.length c0_3) ∧ w'.cell? ⟨a1, 4, none⟩ = some (.slice A0_4 l0_4.length c0_4) ∧ w'.cell? ⟨a1, 5, none⟩ = some (.slice A0_5 l0_5.length c0_5)) ∧ (Kd.R (Kd.int .i64) 3 w' w.heap.size (fun _ => True) s_ aq) ∧ (w'.heap[a1]? = some (.cells #[.slice A0_0 l0_0.length c0_0, .slice A0_1 l0_1.length c0_1, .int .i64 a0_2, .slice A0_3 l0_3.length c0_3, .slice A0_4 l0_4.length c0_4, .slice A0_5 l0_5.length c0_5] 34 (0, 0))) ∧ (w'.heap[a3]? = some (.cells #[.slice none 0 0, .slice none 0 0, .int .i64 0, .slice none 0 0, .slice none 0 0, .slice none 0 0] 34 (0, 0))) ∧ (Below w.heap.size w w')) ?_ ?_
                       rotate_left
                       ·intro hJ9
                        refine join_ (σ := Value) 8 #[true, true, false, true, true, false, true, true, false, false, true, true, false, true, true, true, false, false, false] (fun s_ => [(16, s_)]) (fun s_ w' => (w'.cell? ⟨a1, 0, none⟩ = some (.slice A0_0 l0_0.length c0_0) ∧ w'.cell? ⟨a1, 1, none⟩ = some (.slice A0_1 l0_1.length c0_1) ∧ w'.cell? ⟨a1, 2, none⟩ = some (.int .i64 a0_2) ∧ w'.cell? ⟨a1, 3, none⟩ = some (.slice A0_3 l0_3.length c0_3) ∧ w'.cell? ⟨a1, 4, none⟩ = some (.slice A0_4 l0_4.length c0_4) ∧ w'.cell? ⟨a1, 5, none⟩ = some (.slice A0_5 l0_5.length c0_5)) ∧ (Kd.R (Kd.int .i64) 3 w' w.heap.size (fun _ => True) s_ am) ∧ (w'.heap[a1]? = some (.cells #[.slice A0_0 l0_0.length c0_0, .slice A0_1 l0_1.length c0_1, .int .i64 a0_2, .slice A0_3 l0_3.length c0_3, .slice A0_4 l0_4.length c0_4, .slice A0_5 l0_5.length c0_5] 34 (0, 0))) ∧ (w'.heap[a3]? = some (.cells #[.slice none 0 0, .slice none 0 0, .int .i64 0, .slice none 0 0, .slice none 0 0, .slice none 0 0] 34 (0, 0))) ∧ (Below w.heap.size w w')) ?_ ?_
                        rotate_left
                        ·intro hJ13
                         refine four_ (i := 2) (j := 5) (k := 9) (m := 13) (Ni := some 5) (Nj := some 8) (Nk := some 12) (Nm := some 16) #[true, true, true, true, true, false, true, true, false, false, true, true, false, false, true, true, false, false, false] #[true, true, false, true, true, true, true, true, false, false, true, true, false, false, true, true, false, false, false] #[true, true, false, true, true, false, true, true, false, true, true, true, false, false, true, true, false, false, false] #[true, true, false, true, true, false, true, true, false, false, true, true, false, true, true, true, false, false, false] rfl rfl rfl rfl rfl rfl rfl rfl (four_of HT_.out (by kernel_rfl)) (by decide) (by decide) (by decide) (by decide) (fun K hK => ?_) (fun K hK => ?_) (fun K hK => ?_) (fun K hK => ?_)
                         ·skip
                          refine goes_ Try.func65 (by kernel_rfl) rfl #[.agg #[.slice A0_0 l0_0.length c0_0, .slice A0_1 l0_1.length c0_1]] (by rfl) rfl rfl (by (try simp only [List.map_toArray, List.map_cons, List.map_nil]); first | done | rfl | (simp only [List.length_drop, List.length_take]; rfl)) ?_
                          with_reducible refine (spec_l03Copy.calls _ _ l0_0 _ _ l0_1 aj ak _ ?side1 ?side2 ?side3 ?side4 A2.out).mono ?_
                          (case side1 => repeat (first | exact (Kd.C_below bd.out HB.out) | (with_reducible refine Kd.C_alloc ?_ _) | (with_reducible refine Kd.C_drewN ?_ _) | (with_reducible refine Kd.C_drew ?_)))
                          (case side2 => exact be.out)
                          (case side3 => repeat (first | exact (Kd.C_below bf.out HB.out) | (with_reducible refine Kd.C_alloc ?_ _) | (with_reducible refine Kd.C_drewN ?_ _) | (with_reducible refine Kd.C_drew ?_)))
                          (case side4 => exact bg.out)
                          rintro e w9 ⟨ag, ah, rfl, ho0, ho1, hb⟩
                          refine ⟨_, rfl, ?_⟩
                          have n0_ := kA9 (Kd.R_lower ho0 (below_size (by repeat (first | (with_reducible first | exact HB.out | apply kA5 | apply kA3 | apply kA4 | refine below_set ?_ a4.out | refine below_set ?_ a5.out) | exact HB.out))))
                          have n1_ := kA9 (Kd.R_lower ho1 (below_size (by repeat (first | (with_reducible first | exact HB.out | apply kA5 | apply kA3 | apply kA4 | refine below_set ?_ a4.out | refine below_set ?_ a5.out) | exact HB.out))))
                          have n2_ := kA9 (blk_below (g := a1) (o := .cells #[.slice A0_0 l0_0.length c0_0, .slice A0_1 l0_1.length c0_1, .int .i64 a0_2, .slice A0_3 l0_3.length c0_3, .slice A0_4 l0_4.length c0_4, .slice A0_5 l0_5.length c0_5] 34 (0, 0)) (by (with_reducible repeat (first | refine kA6 ?_ _ | refine kA8 ?_ | refine kA7 ?_ _)); exact a0.out) hb)
                          have n3_ := kA9 (blk_below (g := a3) (o := .cells #[.slice none 0 0, .slice none 0 0, .int .i64 0, .slice none 0 0, .slice none 0 0, .slice none 0 0] 34 (0, 0)) (by (with_reducible repeat (first | refine kA6 ?_ _ | refine kA8 ?_ | refine kA7 ?_ _)); exact a2.out) hb)
                          have n4_ := kA9 (below_step (by repeat (first | (with_reducible first | exact HB.out | apply kA5 | apply kA3 | apply kA4 | refine below_set ?_ a4.out | refine below_set ?_ a5.out) | exact HB.out)) hb)
                          clear a0
                          clear a2
                          clear HB
                          have a6 := n0_
                          have a7 := n1_
                          have a0 := n2_
                          have a2 := n3_
                          have HB := n4_
                          clear n0_ n1_ n2_ n3_ n4_
                          (try clear hb)
                          (try clear hb2)
                          (try clear hk)
                          (try clear hi)
                          (try clear ho0)
                          (try clear ho1)
                          refine hK.out _ _ ⟨(blk_cell a0.out 0).trans rfl, (blk_cell a0.out 1).trans rfl, (blk_cell a0.out 2).trans rfl, (blk_cell a0.out 3).trans rfl, (blk_cell a0.out 4).trans rfl, (blk_cell a0.out 5).trans rfl⟩ (fun hHeld => ?_)
                          clear hK K
                          refine norm_ (a' := ?_) ?_ ?_
                          rotate_left
                          ·show Act.put _ (some 5) _ = _
                           simp only [Act.put, sA0, sA1, sA2, i64_w, i32_w]
                           rfl
                          exact norm_ (by first | (simp only [putAll, Act.put, sA0, sA1, sA2]; done) | (simp only [putAll, Act.put, sA0, sA1, sA2]; rfl)) (hJ2 (ag, ah) _ ⟨hHeld, (by (with_reducible repeat (first | apply kA0 | apply kA1 | apply kA2)); exact a6.out), (by (with_reducible repeat (first | apply kA0 | apply kA1 | apply kA2)); exact a7.out), (by (with_reducible repeat (first | refine kA6 ?_ _ | refine kA8 ?_ | refine kA7 ?_ _)); exact a0.out), (by (with_reducible repeat (first | refine kA6 ?_ _ | refine kA8 ?_ | refine kA7 ?_ _)); exact a2.out), (by repeat (first | (with_reducible first | exact HB.out | apply kA5 | apply kA3 | apply kA4 | refine below_set ?_ a4.out | refine below_set ?_ a5.out) | exact HB.out))⟩)
                         ·skip
                          refine Kd.R_lit_step (Kd.int .i64) _ 3 ?hg (N := 8) ?hd (xs := ([] : List Int)) (inner := []) (ok := fun _ => True) (okp := fun _ => True) ?hr ?hp (fun _ hk => hk) trivial (Below.refl _ _) (Nat.le_refl _) (by simp) ?_; (case hd => rfl); (case hg => rfl); (case hr => first | (go_simp; done) | (go_simp; rfl)); (case hp => exact (Reps.none _ _))
                          intro ae w9 b3 hb hg_ hnew_
                          clear hg_ hnew_
                          (first | rw [← b1.out] at b3 | (simp only [Int.reduceToNat] at b3; rw [← b1.out] at b3))
                          have n0_ := kA9 (Kd.R_lower b3 (below_size (by repeat (first | (with_reducible first | exact HB.out | apply kA5 | apply kA3 | apply kA4 | refine below_set ?_ a4.out | refine below_set ?_ a5.out) | exact HB.out))))
                          have n1_ := kA9 (blk_below (g := a1) (o := .cells #[.slice A0_0 l0_0.length c0_0, .slice A0_1 l0_1.length c0_1, .int .i64 a0_2, .slice A0_3 l0_3.length c0_3, .slice A0_4 l0_4.length c0_4, .slice A0_5 l0_5.length c0_5] 34 (0, 0)) (by (with_reducible repeat (first | refine kA6 ?_ _ | refine kA8 ?_ | refine kA7 ?_ _)); exact a0.out) hb)
                          have n2_ := kA9 (blk_below (g := a3) (o := .cells #[.slice none 0 0, .slice none 0 0, .int .i64 0, .slice none 0 0, .slice none 0 0, .slice none 0 0] 34 (0, 0)) (by (with_reducible repeat (first | refine kA6 ?_ _ | refine kA8 ?_ | refine kA7 ?_ _)); exact a2.out) hb)
                          have n3_ := kA9 (below_step (by repeat (first | (with_reducible first | exact HB.out | apply kA5 | apply kA3 | apply kA4 | refine below_set ?_ a4.out | refine below_set ?_ a5.out) | exact HB.out)) hb)
                          clear a0
                          clear a2
                          clear HB
                          have aa := n0_
                          have a0 := n1_
                          have a2 := n2_
                          have HB := n3_
                          clear n0_ n1_ n2_ n3_
                          clear hb b3
                          refine hK.out _ _ ⟨(blk_cell a0.out 0).trans rfl, (blk_cell a0.out 1).trans rfl, (blk_cell a0.out 2).trans rfl, (blk_cell a0.out 3).trans rfl, (blk_cell a0.out 4).trans rfl, (blk_cell a0.out 5).trans rfl⟩ (fun hHeld => ?_)
                          clear hK K
                          refine norm_ (a' := ?_) ?_ ?_
                          rotate_left
                          ·show Act.put _ (some 8) _ = _
                           simp only [Act.put, sA0, sA1, sA2, i64_w, i32_w]
                           rfl
                          exact norm_ (by first | (simp only [putAll, Act.put, sA0, sA1, sA2]; done) | (simp only [putAll, Act.put, sA0, sA1, sA2]; rfl)) (hJ5 (ae) _ ⟨hHeld, (by (with_reducible repeat (first | apply kA0 | apply kA1 | apply kA2)); exact aa.out), (by (with_reducible repeat (first | refine kA6 ?_ _ | refine kA8 ?_ | refine kA7 ?_ _)); exact a0.out), (by (with_reducible repeat (first | refine kA6 ?_ _ | refine kA8 ?_ | refine kA7 ?_ _)); exact a2.out), (by repeat (first | (with_reducible first | exact HB.out | apply kA5 | apply kA3 | apply kA4 | refine below_set ?_ a4.out | refine below_set ?_ a5.out) | exact HB.out))⟩)
                         ·skip
                          refine Kd.R_lit_step (Kd.int .i64) _ 3 ?hg (N := 12) ?hd (xs := ([] : List Int)) (inner := []) (ok := fun _ => True) (okp := fun _ => True) ?hr ?hp (fun _ hk => hk) trivial (Below.refl _ _) (Nat.le_refl _) (by simp) ?_; (case hd => rfl); (case hg => rfl); (case hr => first | (go_simp; done) | (go_simp; rfl)); (case hp => exact (Reps.none _ _))
                          intro ad w9 b3 hb hg_ hnew_
                          clear hg_ hnew_
                          (first | rw [← ay.out] at b3 | (simp only [Int.reduceToNat] at b3; rw [← ay.out] at b3))
                          have n0_ := kA9 (Kd.R_lower b3 (below_size (by repeat (first | (with_reducible first | exact HB.out | apply kA5 | apply kA3 | apply kA4 | refine below_set ?_ a4.out | refine below_set ?_ a5.out) | exact HB.out))))
                          have n1_ := kA9 (blk_below (g := a1) (o := .cells #[.slice A0_0 l0_0.length c0_0, .slice A0_1 l0_1.length c0_1, .int .i64 a0_2, .slice A0_3 l0_3.length c0_3, .slice A0_4 l0_4.length c0_4, .slice A0_5 l0_5.length c0_5] 34 (0, 0)) (by (with_reducible repeat (first | refine kA6 ?_ _ | refine kA8 ?_ | refine kA7 ?_ _)); exact a0.out) hb)
                          have n2_ := kA9 (blk_below (g := a3) (o := .cells #[.slice none 0 0, .slice none 0 0, .int .i64 0, .slice none 0 0, .slice none 0 0, .slice none 0 0] 34 (0, 0)) (by (with_reducible repeat (first | refine kA6 ?_ _ | refine kA8 ?_ | refine kA7 ?_ _)); exact a2.out) hb)
                          have n3_ := kA9 (below_step (by repeat (first | (with_reducible first | exact HB.out | apply kA5 | apply kA3 | apply kA4 | refine below_set ?_ a4.out | refine below_set ?_ a5.out) | exact HB.out)) hb)
                          clear a0
                          clear a2
                          clear HB
                          have a9 := n0_
                          have a0 := n1_
                          have a2 := n2_
                          have HB := n3_
                          clear n0_ n1_ n2_ n3_
                          clear hb b3
                          refine hK.out _ _ ⟨(blk_cell a0.out 0).trans rfl, (blk_cell a0.out 1).trans rfl, (blk_cell a0.out 2).trans rfl, (blk_cell a0.out 3).trans rfl, (blk_cell a0.out 4).trans rfl, (blk_cell a0.out 5).trans rfl⟩ (fun hHeld => ?_)
                          clear hK K
                          refine norm_ (a' := ?_) ?_ ?_
                          rotate_left
                          ·show Act.put _ (some 12) _ = _
                           simp only [Act.put, sA0, sA1, sA2, i64_w, i32_w]
                           rfl
                          exact norm_ (by first | (simp only [putAll, Act.put, sA0, sA1, sA2]; done) | (simp only [putAll, Act.put, sA0, sA1, sA2]; rfl)) (hJ9 (ad) _ ⟨hHeld, (by (with_reducible repeat (first | apply kA0 | apply kA1 | apply kA2)); exact a9.out), (by (with_reducible repeat (first | refine kA6 ?_ _ | refine kA8 ?_ | refine kA7 ?_ _)); exact a0.out), (by (with_reducible repeat (first | refine kA6 ?_ _ | refine kA8 ?_ | refine kA7 ?_ _)); exact a2.out), (by repeat (first | (with_reducible first | exact HB.out | apply kA5 | apply kA3 | apply kA4 | refine below_set ?_ a4.out | refine below_set ?_ a5.out) | exact HB.out))⟩)
                         ·skip
                          refine Kd.R_lit_step (Kd.int .i64) _ 3 ?hg (N := 16) ?hd (xs := ([] : List Int)) (inner := []) (ok := fun _ => True) (okp := fun _ => True) ?hr ?hp (fun _ hk => hk) trivial (Below.refl _ _) (Nat.le_refl _) (by simp) ?_; (case hd => rfl); (case hg => rfl); (case hr => first | (go_simp; done) | (go_simp; rfl)); (case hp => exact (Reps.none _ _))
                          intro ac w9 b3 hb hg_ hnew_
                          clear hg_ hnew_
                          (first | rw [← ax.out] at b3 | (simp only [Int.reduceToNat] at b3; rw [← ax.out] at b3))
                          have n0_ := kA9 (Kd.R_lower b3 (below_size (by repeat (first | (with_reducible first | exact HB.out | apply kA5 | apply kA3 | apply kA4 | refine below_set ?_ a4.out | refine below_set ?_ a5.out) | exact HB.out))))
                          have n1_ := kA9 (blk_below (g := a1) (o := .cells #[.slice A0_0 l0_0.length c0_0, .slice A0_1 l0_1.length c0_1, .int .i64 a0_2, .slice A0_3 l0_3.length c0_3, .slice A0_4 l0_4.length c0_4, .slice A0_5 l0_5.length c0_5] 34 (0, 0)) (by (with_reducible repeat (first | refine kA6 ?_ _ | refine kA8 ?_ | refine kA7 ?_ _)); exact a0.out) hb)
                          have n2_ := kA9 (blk_below (g := a3) (o := .cells #[.slice none 0 0, .slice none 0 0, .int .i64 0, .slice none 0 0, .slice none 0 0, .slice none 0 0] 34 (0, 0)) (by (with_reducible repeat (first | refine kA6 ?_ _ | refine kA8 ?_ | refine kA7 ?_ _)); exact a2.out) hb)
                          have n3_ := kA9 (below_step (by repeat (first | (with_reducible first | exact HB.out | apply kA5 | apply kA3 | apply kA4 | refine below_set ?_ a4.out | refine below_set ?_ a5.out) | exact HB.out)) hb)
                          clear a0
                          clear a2
                          clear HB
                          have a8 := n0_
                          have a0 := n1_
                          have a2 := n2_
                          have HB := n3_
                          clear n0_ n1_ n2_ n3_
                          clear hb b3
                          refine hK.out _ _ ⟨(blk_cell a0.out 0).trans rfl, (blk_cell a0.out 1).trans rfl, (blk_cell a0.out 2).trans rfl, (blk_cell a0.out 3).trans rfl, (blk_cell a0.out 4).trans rfl, (blk_cell a0.out 5).trans rfl⟩ (fun hHeld => ?_)
                          clear hK K
                          refine norm_ (a' := ?_) ?_ ?_
                          rotate_left
                          ·show Act.put _ (some 16) _ = _
                           simp only [Act.put, sA0, sA1, sA2, i64_w, i32_w]
                           rfl
                          exact norm_ (by first | (simp only [putAll, Act.put, sA0, sA1, sA2]; done) | (simp only [putAll, Act.put, sA0, sA1, sA2]; rfl)) (hJ13 (ac) _ ⟨hHeld, (by (with_reducible repeat (first | apply kA0 | apply kA1 | apply kA2)); exact a8.out), (by (with_reducible repeat (first | refine kA6 ?_ _ | refine kA8 ?_ | refine kA7 ?_ _)); exact a0.out), (by (with_reducible repeat (first | refine kA6 ?_ _ | refine kA8 ?_ | refine kA7 ?_ _)); exact a2.out), (by repeat (first | (with_reducible first | exact HB.out | apply kA5 | apply kA3 | apply kA4 | refine below_set ?_ a4.out | refine below_set ?_ a5.out) | exact HB.out))⟩)
                        ·skip
                         rintro ac w11 ⟨hS_, h0_, h1_, h2_, h3_⟩
                         have n0_ : Aside0 (Kd.R (Kd.int .i64) 3 w11 w.heap.size (fun _ => True) ac am) := ⟨h0_⟩
                         have n1_ : Aside0 (w11.heap[a1]? = some (.cells #[.slice A0_0 l0_0.length c0_0, .slice A0_1 l0_1.length c0_1, .int .i64 a0_2, .slice A0_3 l0_3.length c0_3, .slice A0_4 l0_4.length c0_4, .slice A0_5 l0_5.length c0_5] 34 (0, 0))) := ⟨h1_⟩
                         have n2_ : Aside0 (w11.heap[a3]? = some (.cells #[.slice none 0 0, .slice none 0 0, .int .i64 0, .slice none 0 0, .slice none 0 0, .slice none 0 0] 34 (0, 0))) := ⟨h2_⟩
                         have n3_ : Aside0 (Below w.heap.size w w11) := ⟨h3_⟩
                         clear a0
                         clear a2
                         clear HB
                         clear h0_ h1_ h2_ h3_
                         have a8 := n0_
                         have a0 := n1_
                         have a2 := n2_
                         have HB := n3_
                         clear n0_ n1_ n2_ n3_
                         have hHeld : w11.cell? ⟨a1, 0, none⟩ = some (.slice A0_0 l0_0.length c0_0) ∧ w11.cell? ⟨a1, 1, none⟩ = some (.slice A0_1 l0_1.length c0_1) ∧ w11.cell? ⟨a1, 2, none⟩ = some (.int .i64 a0_2) ∧ w11.cell? ⟨a1, 3, none⟩ = some (.slice A0_3 l0_3.length c0_3) ∧ w11.cell? ⟨a1, 4, none⟩ = some (.slice A0_4 l0_4.length c0_4) ∧ w11.cell? ⟨a1, 5, none⟩ = some (.slice A0_5 l0_5.length c0_5) := hS_
                         refine norm_ (a' := ?_) ?_ ?_
                         rotate_left
                         ·simp only [putAll, Act.put, sA0, sA1, sA2]
                          rfl
                         refine three_ (i := 2) (j := 5) (k := 9) (Ni := some 5) (Nj := some 8) (Nk := some 12) #[true, true, true, true, true, false, true, true, false, false, true, true, false, true, true, true, false, false, false] #[true, true, false, true, true, true, true, true, false, false, true, true, false, true, true, true, false, false, false] #[true, true, false, true, true, false, true, true, false, true, true, true, false, true, true, true, false, false, false] rfl rfl rfl rfl rfl rfl (three_of HT_.out (by kernel_rfl)) (by decide) (by decide) (by decide) (fun K hK => ?_) (fun K hK => ?_) (fun K hK => ?_)
                         ·skip
                          refine goes_ Try.func65 (by kernel_rfl) rfl #[.agg #[.slice A0_0 l0_0.length c0_0, .slice A0_1 l0_1.length c0_1]] (by rfl) rfl rfl (by (try simp only [List.map_toArray, List.map_cons, List.map_nil]); first | done | rfl | (simp only [List.length_drop, List.length_take]; rfl)) ?_
                          with_reducible refine (spec_l03Copy.calls _ _ l0_0 _ _ l0_1 aj ak _ ?side1 ?side2 ?side3 ?side4 A2.out).mono ?_
                          (case side1 => repeat (first | exact (Kd.C_below bd.out HB.out) | (with_reducible refine Kd.C_alloc ?_ _) | (with_reducible refine Kd.C_drewN ?_ _) | (with_reducible refine Kd.C_drew ?_)))
                          (case side2 => exact be.out)
                          (case side3 => repeat (first | exact (Kd.C_below bf.out HB.out) | (with_reducible refine Kd.C_alloc ?_ _) | (with_reducible refine Kd.C_drewN ?_ _) | (with_reducible refine Kd.C_drew ?_)))
                          (case side4 => exact bg.out)
                          rintro e w12 ⟨ag, ah, rfl, ho0, ho1, hb⟩
                          refine ⟨_, rfl, ?_⟩
                          have n0_ := kA9 (Kd.R_below (by (with_reducible repeat (first | apply kA0 | apply kA1 | apply kA2)); exact a8.out) hb)
                          have n1_ := kA9 (Kd.R_lower ho0 (below_size (by repeat (first | (with_reducible first | exact HB.out | apply kA5 | apply kA3 | apply kA4 | refine below_set ?_ a4.out | refine below_set ?_ a5.out) | exact HB.out))))
                          have n2_ := kA9 (Kd.R_lower ho1 (below_size (by repeat (first | (with_reducible first | exact HB.out | apply kA5 | apply kA3 | apply kA4 | refine below_set ?_ a4.out | refine below_set ?_ a5.out) | exact HB.out))))
                          have n3_ := kA9 (blk_below (g := a1) (o := .cells #[.slice A0_0 l0_0.length c0_0, .slice A0_1 l0_1.length c0_1, .int .i64 a0_2, .slice A0_3 l0_3.length c0_3, .slice A0_4 l0_4.length c0_4, .slice A0_5 l0_5.length c0_5] 34 (0, 0)) (by (with_reducible repeat (first | refine kA6 ?_ _ | refine kA8 ?_ | refine kA7 ?_ _)); exact a0.out) hb)
                          have n4_ := kA9 (blk_below (g := a3) (o := .cells #[.slice none 0 0, .slice none 0 0, .int .i64 0, .slice none 0 0, .slice none 0 0, .slice none 0 0] 34 (0, 0)) (by (with_reducible repeat (first | refine kA6 ?_ _ | refine kA8 ?_ | refine kA7 ?_ _)); exact a2.out) hb)
                          have n5_ := kA9 (below_step (by repeat (first | (with_reducible first | exact HB.out | apply kA5 | apply kA3 | apply kA4 | refine below_set ?_ a4.out | refine below_set ?_ a5.out) | exact HB.out)) hb)
                          clear a8
                          clear a0
                          clear a2
                          clear HB
                          have a8 := n0_
                          have a6 := n1_
                          have a7 := n2_
                          have a0 := n3_
                          have a2 := n4_
                          have HB := n5_
                          clear n0_ n1_ n2_ n3_ n4_ n5_
                          (try clear hb)
                          (try clear hb2)
                          (try clear hk)
                          (try clear hi)
                          (try clear ho0)
                          (try clear ho1)
                          refine hK.out _ _ ⟨(blk_cell a0.out 0).trans rfl, (blk_cell a0.out 1).trans rfl, (blk_cell a0.out 2).trans rfl, (blk_cell a0.out 3).trans rfl, (blk_cell a0.out 4).trans rfl, (blk_cell a0.out 5).trans rfl⟩ (fun hHeld => ?_)
                          clear hK K
                          refine norm_ (a' := ?_) ?_ ?_
                          rotate_left
                          ·show Act.put _ (some 5) _ = _
                           simp only [Act.put, sA0, sA1, sA2, i64_w, i32_w]
                           rfl
                          exact norm_ (by first | (simp only [putAll, Act.put, sA0, sA1, sA2]; done) | (simp only [putAll, Act.put, sA0, sA1, sA2]; rfl)) (hJ2_13 (ag, ah, ac) _ ⟨hHeld, (by (with_reducible repeat (first | apply kA0 | apply kA1 | apply kA2)); exact a6.out), (by (with_reducible repeat (first | apply kA0 | apply kA1 | apply kA2)); exact a7.out), (by (with_reducible repeat (first | apply kA0 | apply kA1 | apply kA2)); exact a8.out), (by (with_reducible repeat (first | refine kA6 ?_ _ | refine kA8 ?_ | refine kA7 ?_ _)); exact a0.out), (by (with_reducible repeat (first | refine kA6 ?_ _ | refine kA8 ?_ | refine kA7 ?_ _)); exact a2.out), (by repeat (first | (with_reducible first | exact HB.out | apply kA5 | apply kA3 | apply kA4 | refine below_set ?_ a4.out | refine below_set ?_ a5.out) | exact HB.out))⟩)
                         ·skip
                          refine Kd.R_lit_step (Kd.int .i64) _ 3 ?hg (N := 8) ?hd (xs := ([] : List Int)) (inner := []) (ok := fun _ => True) (okp := fun _ => True) ?hr ?hp (fun _ hk => hk) trivial (Below.refl _ _) (Nat.le_refl _) (by simp) ?_; (case hd => rfl); (case hg => rfl); (case hr => first | (go_simp; done) | (go_simp; rfl)); (case hp => exact (Reps.none _ _))
                          intro ae w12 an hb hg_ hnew_
                          clear hg_ hnew_
                          (first | rw [← b1.out] at an | (simp only [Int.reduceToNat] at an; rw [← b1.out] at an))
                          have n0_ := kA9 (Kd.R_elder' (by (with_reducible repeat (first | apply kA0 | apply kA1 | apply kA2)); exact a8.out) (Kd.R_base an) hb)
                          have n1_ := kA9 (Kd.R_lower (Kd.R_new' an (Kd.R_lt (by (with_reducible repeat (first | apply kA0 | apply kA1 | apply kA2)); exact a8.out))) (below_size (by repeat (first | (with_reducible first | exact HB.out | apply kA5 | apply kA3 | apply kA4 | refine below_set ?_ a4.out | refine below_set ?_ a5.out) | exact HB.out))))
                          have n2_ := kA9 (blk_below (g := a1) (o := .cells #[.slice A0_0 l0_0.length c0_0, .slice A0_1 l0_1.length c0_1, .int .i64 a0_2, .slice A0_3 l0_3.length c0_3, .slice A0_4 l0_4.length c0_4, .slice A0_5 l0_5.length c0_5] 34 (0, 0)) (by (with_reducible repeat (first | refine kA6 ?_ _ | refine kA8 ?_ | refine kA7 ?_ _)); exact a0.out) hb)
                          have n3_ := kA9 (blk_below (g := a3) (o := .cells #[.slice none 0 0, .slice none 0 0, .int .i64 0, .slice none 0 0, .slice none 0 0, .slice none 0 0] 34 (0, 0)) (by (with_reducible repeat (first | refine kA6 ?_ _ | refine kA8 ?_ | refine kA7 ?_ _)); exact a2.out) hb)
                          have n4_ := kA9 (below_step (by repeat (first | (with_reducible first | exact HB.out | apply kA5 | apply kA3 | apply kA4 | refine below_set ?_ a4.out | refine below_set ?_ a5.out) | exact HB.out)) hb)
                          clear a8
                          clear a0
                          clear a2
                          clear HB
                          have a8 := n0_
                          have aa := n1_
                          have a0 := n2_
                          have a2 := n3_
                          have HB := n4_
                          clear n0_ n1_ n2_ n3_ n4_
                          clear hb an
                          refine hK.out _ _ ⟨(blk_cell a0.out 0).trans rfl, (blk_cell a0.out 1).trans rfl, (blk_cell a0.out 2).trans rfl, (blk_cell a0.out 3).trans rfl, (blk_cell a0.out 4).trans rfl, (blk_cell a0.out 5).trans rfl⟩ (fun hHeld => ?_)
                          clear hK K
                          refine norm_ (a' := ?_) ?_ ?_
                          rotate_left
                          ·show Act.put _ (some 8) _ = _
                           simp only [Act.put, sA0, sA1, sA2, i64_w, i32_w]
                           rfl
                          exact norm_ (by first | (simp only [putAll, Act.put, sA0, sA1, sA2]; done) | (simp only [putAll, Act.put, sA0, sA1, sA2]; rfl)) (hJ5_13 (ae, ac) _ ⟨hHeld, (by (with_reducible repeat (first | apply kA0 | apply kA1 | apply kA2)); exact Kd.R_mono aa.out (fun _ hk => hk.2)), (by (with_reducible repeat (first | apply kA0 | apply kA1 | apply kA2)); exact Kd.R_mono a8.out (fun _ hk => hk.2)), (by (with_reducible repeat (first | refine kA6 ?_ _ | refine kA8 ?_ | refine kA7 ?_ _)); exact a0.out), (by (with_reducible repeat (first | refine kA6 ?_ _ | refine kA8 ?_ | refine kA7 ?_ _)); exact a2.out), (by repeat (first | (with_reducible first | exact HB.out | apply kA5 | apply kA3 | apply kA4 | refine below_set ?_ a4.out | refine below_set ?_ a5.out) | exact HB.out))⟩)
                         ·skip
                          refine Kd.R_lit_step (Kd.int .i64) _ 3 ?hg (N := 12) ?hd (xs := ([] : List Int)) (inner := []) (ok := fun _ => True) (okp := fun _ => True) ?hr ?hp (fun _ hk => hk) trivial (Below.refl _ _) (Nat.le_refl _) (by simp) ?_; (case hd => rfl); (case hg => rfl); (case hr => first | (go_simp; done) | (go_simp; rfl)); (case hp => exact (Reps.none _ _))
                          intro ad w12 an hb hg_ hnew_
                          clear hg_ hnew_
                          (first | rw [← ay.out] at an | (simp only [Int.reduceToNat] at an; rw [← ay.out] at an))
                          have n0_ := kA9 (Kd.R_elder' (by (with_reducible repeat (first | apply kA0 | apply kA1 | apply kA2)); exact a8.out) (Kd.R_base an) hb)
                          have n1_ := kA9 (Kd.R_lower (Kd.R_new' an (Kd.R_lt (by (with_reducible repeat (first | apply kA0 | apply kA1 | apply kA2)); exact a8.out))) (below_size (by repeat (first | (with_reducible first | exact HB.out | apply kA5 | apply kA3 | apply kA4 | refine below_set ?_ a4.out | refine below_set ?_ a5.out) | exact HB.out))))
                          have n2_ := kA9 (blk_below (g := a1) (o := .cells #[.slice A0_0 l0_0.length c0_0, .slice A0_1 l0_1.length c0_1, .int .i64 a0_2, .slice A0_3 l0_3.length c0_3, .slice A0_4 l0_4.length c0_4, .slice A0_5 l0_5.length c0_5] 34 (0, 0)) (by (with_reducible repeat (first | refine kA6 ?_ _ | refine kA8 ?_ | refine kA7 ?_ _)); exact a0.out) hb)
                          have n3_ := kA9 (blk_below (g := a3) (o := .cells #[.slice none 0 0, .slice none 0 0, .int .i64 0, .slice none 0 0, .slice none 0 0, .slice none 0 0] 34 (0, 0)) (by (with_reducible repeat (first | refine kA6 ?_ _ | refine kA8 ?_ | refine kA7 ?_ _)); exact a2.out) hb)
                          have n4_ := kA9 (below_step (by repeat (first | (with_reducible first | exact HB.out | apply kA5 | apply kA3 | apply kA4 | refine below_set ?_ a4.out | refine below_set ?_ a5.out) | exact HB.out)) hb)
                          clear a8
                          clear a0
                          clear a2
                          clear HB
                          have a8 := n0_
                          have a9 := n1_
                          have a0 := n2_
                          have a2 := n3_
                          have HB := n4_
                          clear n0_ n1_ n2_ n3_ n4_
                          clear hb an
                          refine hK.out _ _ ⟨(blk_cell a0.out 0).trans rfl, (blk_cell a0.out 1).trans rfl, (blk_cell a0.out 2).trans rfl, (blk_cell a0.out 3).trans rfl, (blk_cell a0.out 4).trans rfl, (blk_cell a0.out 5).trans rfl⟩ (fun hHeld => ?_)
                          clear hK K
                          refine norm_ (a' := ?_) ?_ ?_
                          rotate_left
                          ·show Act.put _ (some 12) _ = _
                           simp only [Act.put, sA0, sA1, sA2, i64_w, i32_w]
                           rfl
                          exact norm_ (by first | (simp only [putAll, Act.put, sA0, sA1, sA2]; done) | (simp only [putAll, Act.put, sA0, sA1, sA2]; rfl)) (hJ9_13 (ad, ac) _ ⟨hHeld, (by (with_reducible repeat (first | apply kA0 | apply kA1 | apply kA2)); exact Kd.R_mono a9.out (fun _ hk => hk.2)), (by (with_reducible repeat (first | apply kA0 | apply kA1 | apply kA2)); exact Kd.R_mono a8.out (fun _ hk => hk.2)), (by (with_reducible repeat (first | refine kA6 ?_ _ | refine kA8 ?_ | refine kA7 ?_ _)); exact a0.out), (by (with_reducible repeat (first | refine kA6 ?_ _ | refine kA8 ?_ | refine kA7 ?_ _)); exact a2.out), (by repeat (first | (with_reducible first | exact HB.out | apply kA5 | apply kA3 | apply kA4 | refine below_set ?_ a4.out | refine below_set ?_ a5.out) | exact HB.out))⟩)
                       ·skip
                        rintro ad w11 ⟨hS_, h0_, h1_, h2_, h3_⟩
                        have n0_ : Aside0 (Kd.R (Kd.int .i64) 3 w11 w.heap.size (fun _ => True) ad aq) := ⟨h0_⟩
                        have n1_ : Aside0 (w11.heap[a1]? = some (.cells #[.slice A0_0 l0_0.length c0_0, .slice A0_1 l0_1.length c0_1, .int .i64 a0_2, .slice A0_3 l0_3.length c0_3, .slice A0_4 l0_4.length c0_4, .slice A0_5 l0_5.length c0_5] 34 (0, 0))) := ⟨h1_⟩
                        have n2_ : Aside0 (w11.heap[a3]? = some (.cells #[.slice none 0 0, .slice none 0 0, .int .i64 0, .slice none 0 0, .slice none 0 0, .slice none 0 0] 34 (0, 0))) := ⟨h2_⟩
                        have n3_ : Aside0 (Below w.heap.size w w11) := ⟨h3_⟩
                        clear a0
                        clear a2
                        clear HB
                        clear h0_ h1_ h2_ h3_
                        have a9 := n0_
                        have a0 := n1_
                        have a2 := n2_
                        have HB := n3_
                        clear n0_ n1_ n2_ n3_
                        have hHeld : w11.cell? ⟨a1, 0, none⟩ = some (.slice A0_0 l0_0.length c0_0) ∧ w11.cell? ⟨a1, 1, none⟩ = some (.slice A0_1 l0_1.length c0_1) ∧ w11.cell? ⟨a1, 2, none⟩ = some (.int .i64 a0_2) ∧ w11.cell? ⟨a1, 3, none⟩ = some (.slice A0_3 l0_3.length c0_3) ∧ w11.cell? ⟨a1, 4, none⟩ = some (.slice A0_4 l0_4.length c0_4) ∧ w11.cell? ⟨a1, 5, none⟩ = some (.slice A0_5 l0_5.length c0_5) := hS_
                        refine norm_ (a' := ?_) ?_ ?_
                        rotate_left
                        ·simp only [putAll, Act.put, sA0, sA1, sA2]
                         rfl
                        refine three_ (i := 2) (j := 5) (k := 13) (Ni := some 5) (Nj := some 8) (Nk := some 16) #[true, true, true, true, true, false, true, true, false, true, true, true, false, false, true, true, false, false, false] #[true, true, false, true, true, true, true, true, false, true, true, true, false, false, true, true, false, false, false] #[true, true, false, true, true, false, true, true, false, true, true, true, false, true, true, true, false, false, false] rfl rfl rfl rfl rfl rfl (three_of HT_.out (by kernel_rfl)) (by decide) (by decide) (by decide) (fun K hK => ?_) (fun K hK => ?_) (fun K hK => ?_)
                        ·skip
                         refine goes_ Try.func65 (by kernel_rfl) rfl #[.agg #[.slice A0_0 l0_0.length c0_0, .slice A0_1 l0_1.length c0_1]] (by rfl) rfl rfl (by (try simp only [List.map_toArray, List.map_cons, List.map_nil]); first | done | rfl | (simp only [List.length_drop, List.length_take]; rfl)) ?_
                         with_reducible refine (spec_l03Copy.calls _ _ l0_0 _ _ l0_1 aj ak _ ?side1 ?side2 ?side3 ?side4 A2.out).mono ?_
                         (case side1 => repeat (first | exact (Kd.C_below bd.out HB.out) | (with_reducible refine Kd.C_alloc ?_ _) | (with_reducible refine Kd.C_drewN ?_ _) | (with_reducible refine Kd.C_drew ?_)))
                         (case side2 => exact be.out)
                         (case side3 => repeat (first | exact (Kd.C_below bf.out HB.out) | (with_reducible refine Kd.C_alloc ?_ _) | (with_reducible refine Kd.C_drewN ?_ _) | (with_reducible refine Kd.C_drew ?_)))
                         (case side4 => exact bg.out)
                         rintro e w12 ⟨ag, ah, rfl, ho0, ho1, hb⟩
                         refine ⟨_, rfl, ?_⟩
                         have n0_ := kA9 (Kd.R_below (by (with_reducible repeat (first | apply kA0 | apply kA1 | apply kA2)); exact a9.out) hb)
                         have n1_ := kA9 (Kd.R_lower ho0 (below_size (by repeat (first | (with_reducible first | exact HB.out | apply kA5 | apply kA3 | apply kA4 | refine below_set ?_ a4.out | refine below_set ?_ a5.out) | exact HB.out))))
                         have n2_ := kA9 (Kd.R_lower ho1 (below_size (by repeat (first | (with_reducible first | exact HB.out | apply kA5 | apply kA3 | apply kA4 | refine below_set ?_ a4.out | refine below_set ?_ a5.out) | exact HB.out))))
                         have n3_ := kA9 (blk_below (g := a1) (o := .cells #[.slice A0_0 l0_0.length c0_0, .slice A0_1 l0_1.length c0_1, .int .i64 a0_2, .slice A0_3 l0_3.length c0_3, .slice A0_4 l0_4.length c0_4, .slice A0_5 l0_5.length c0_5] 34 (0, 0)) (by (with_reducible repeat (first | refine kA6 ?_ _ | refine kA8 ?_ | refine kA7 ?_ _)); exact a0.out) hb)
                         have n4_ := kA9 (blk_below (g := a3) (o := .cells #[.slice none 0 0, .slice none 0 0, .int .i64 0, .slice none 0 0, .slice none 0 0, .slice none 0 0] 34 (0, 0)) (by (with_reducible repeat (first | refine kA6 ?_ _ | refine kA8 ?_ | refine kA7 ?_ _)); exact a2.out) hb)
                         have n5_ := kA9 (below_step (by repeat (first | (with_reducible first | exact HB.out | apply kA5 | apply kA3 | apply kA4 | refine below_set ?_ a4.out | refine below_set ?_ a5.out) | exact HB.out)) hb)
                         clear a9
                         clear a0
                         clear a2
                         clear HB
                         have a9 := n0_
                         have a6 := n1_
                         have a7 := n2_
                         have a0 := n3_
                         have a2 := n4_
                         have HB := n5_
                         clear n0_ n1_ n2_ n3_ n4_ n5_
                         (try clear hb)
                         (try clear hb2)
                         (try clear hk)
                         (try clear hi)
                         (try clear ho0)
                         (try clear ho1)
                         refine hK.out _ _ ⟨(blk_cell a0.out 0).trans rfl, (blk_cell a0.out 1).trans rfl, (blk_cell a0.out 2).trans rfl, (blk_cell a0.out 3).trans rfl, (blk_cell a0.out 4).trans rfl, (blk_cell a0.out 5).trans rfl⟩ (fun hHeld => ?_)
                         clear hK K
                         refine norm_ (a' := ?_) ?_ ?_
                         rotate_left
                         ·show Act.put _ (some 5) _ = _
                          simp only [Act.put, sA0, sA1, sA2, i64_w, i32_w]
                          rfl
                         exact norm_ (by first | (simp only [putAll, Act.put, sA0, sA1, sA2]; done) | (simp only [putAll, Act.put, sA0, sA1, sA2]; rfl)) (hJ2_9 (ag, ah, ad) _ ⟨hHeld, (by (with_reducible repeat (first | apply kA0 | apply kA1 | apply kA2)); exact a6.out), (by (with_reducible repeat (first | apply kA0 | apply kA1 | apply kA2)); exact a7.out), (by (with_reducible repeat (first | apply kA0 | apply kA1 | apply kA2)); exact a9.out), (by (with_reducible repeat (first | refine kA6 ?_ _ | refine kA8 ?_ | refine kA7 ?_ _)); exact a0.out), (by (with_reducible repeat (first | refine kA6 ?_ _ | refine kA8 ?_ | refine kA7 ?_ _)); exact a2.out), (by repeat (first | (with_reducible first | exact HB.out | apply kA5 | apply kA3 | apply kA4 | refine below_set ?_ a4.out | refine below_set ?_ a5.out) | exact HB.out))⟩)
                        ·skip
                         refine Kd.R_lit_step (Kd.int .i64) _ 3 ?hg (N := 8) ?hd (xs := ([] : List Int)) (inner := []) (ok := fun _ => True) (okp := fun _ => True) ?hr ?hp (fun _ hk => hk) trivial (Below.refl _ _) (Nat.le_refl _) (by simp) ?_; (case hd => rfl); (case hg => rfl); (case hr => first | (go_simp; done) | (go_simp; rfl)); (case hp => exact (Reps.none _ _))
                         intro ae w12 an hb hg_ hnew_
                         clear hg_ hnew_
                         (first | rw [← b1.out] at an | (simp only [Int.reduceToNat] at an; rw [← b1.out] at an))
                         have n0_ := kA9 (Kd.R_elder' (by (with_reducible repeat (first | apply kA0 | apply kA1 | apply kA2)); exact a9.out) (Kd.R_base an) hb)
                         have n1_ := kA9 (Kd.R_lower (Kd.R_new' an (Kd.R_lt (by (with_reducible repeat (first | apply kA0 | apply kA1 | apply kA2)); exact a9.out))) (below_size (by repeat (first | (with_reducible first | exact HB.out | apply kA5 | apply kA3 | apply kA4 | refine below_set ?_ a4.out | refine below_set ?_ a5.out) | exact HB.out))))
                         have n2_ := kA9 (blk_below (g := a1) (o := .cells #[.slice A0_0 l0_0.length c0_0, .slice A0_1 l0_1.length c0_1, .int .i64 a0_2, .slice A0_3 l0_3.length c0_3, .slice A0_4 l0_4.length c0_4, .slice A0_5 l0_5.length c0_5] 34 (0, 0)) (by (with_reducible repeat (first | refine kA6 ?_ _ | refine kA8 ?_ | refine kA7 ?_ _)); exact a0.out) hb)
                         have n3_ := kA9 (blk_below (g := a3) (o := .cells #[.slice none 0 0, .slice none 0 0, .int .i64 0, .slice none 0 0, .slice none 0 0, .slice none 0 0] 34 (0, 0)) (by (with_reducible repeat (first | refine kA6 ?_ _ | refine kA8 ?_ | refine kA7 ?_ _)); exact a2.out) hb)
                         have n4_ := kA9 (below_step (by repeat (first | (with_reducible first | exact HB.out | apply kA5 | apply kA3 | apply kA4 | refine below_set ?_ a4.out | refine below_set ?_ a5.out) | exact HB.out)) hb)
                         clear a9
                         clear a0
                         clear a2
                         clear HB
                         have a9 := n0_
                         have aa := n1_
                         have a0 := n2_
                         have a2 := n3_
                         have HB := n4_
                         clear n0_ n1_ n2_ n3_ n4_
                         clear hb an
                         refine hK.out _ _ ⟨(blk_cell a0.out 0).trans rfl, (blk_cell a0.out 1).trans rfl, (blk_cell a0.out 2).trans rfl, (blk_cell a0.out 3).trans rfl, (blk_cell a0.out 4).trans rfl, (blk_cell a0.out 5).trans rfl⟩ (fun hHeld => ?_)
                         clear hK K
                         refine norm_ (a' := ?_) ?_ ?_
                         rotate_left
                         ·show Act.put _ (some 8) _ = _
                          simp only [Act.put, sA0, sA1, sA2, i64_w, i32_w]
                          rfl
                         exact norm_ (by first | (simp only [putAll, Act.put, sA0, sA1, sA2]; done) | (simp only [putAll, Act.put, sA0, sA1, sA2]; rfl)) (hJ5_9 (ae, ad) _ ⟨hHeld, (by (with_reducible repeat (first | apply kA0 | apply kA1 | apply kA2)); exact Kd.R_mono aa.out (fun _ hk => hk.2)), (by (with_reducible repeat (first | apply kA0 | apply kA1 | apply kA2)); exact Kd.R_mono a9.out (fun _ hk => hk.2)), (by (with_reducible repeat (first | refine kA6 ?_ _ | refine kA8 ?_ | refine kA7 ?_ _)); exact a0.out), (by (with_reducible repeat (first | refine kA6 ?_ _ | refine kA8 ?_ | refine kA7 ?_ _)); exact a2.out), (by repeat (first | (with_reducible first | exact HB.out | apply kA5 | apply kA3 | apply kA4 | refine below_set ?_ a4.out | refine below_set ?_ a5.out) | exact HB.out))⟩)
                        ·skip
                         refine Kd.R_lit_step (Kd.int .i64) _ 3 ?hg (N := 16) ?hd (xs := ([] : List Int)) (inner := []) (ok := fun _ => True) (okp := fun _ => True) ?hr ?hp (fun _ hk => hk) trivial (Below.refl _ _) (Nat.le_refl _) (by simp) ?_; (case hd => rfl); (case hg => rfl); (case hr => first | (go_simp; done) | (go_simp; rfl)); (case hp => exact (Reps.none _ _))
                         intro ac w12 an hb hg_ hnew_
                         clear hg_ hnew_
                         (first | rw [← ax.out] at an | (simp only [Int.reduceToNat] at an; rw [← ax.out] at an))
                         have n0_ := kA9 (Kd.R_elder' (by (with_reducible repeat (first | apply kA0 | apply kA1 | apply kA2)); exact a9.out) (Kd.R_base an) hb)
                         have n1_ := kA9 (Kd.R_lower (Kd.R_new' an (Kd.R_lt (by (with_reducible repeat (first | apply kA0 | apply kA1 | apply kA2)); exact a9.out))) (below_size (by repeat (first | (with_reducible first | exact HB.out | apply kA5 | apply kA3 | apply kA4 | refine below_set ?_ a4.out | refine below_set ?_ a5.out) | exact HB.out))))
                         have n2_ := kA9 (blk_below (g := a1) (o := .cells #[.slice A0_0 l0_0.length c0_0, .slice A0_1 l0_1.length c0_1, .int .i64 a0_2, .slice A0_3 l0_3.length c0_3, .slice A0_4 l0_4.length c0_4, .slice A0_5 l0_5.length c0_5] 34 (0, 0)) (by (with_reducible repeat (first | refine kA6 ?_ _ | refine kA8 ?_ | refine kA7 ?_ _)); exact a0.out) hb)
                         have n3_ := kA9 (blk_below (g := a3) (o := .cells #[.slice none 0 0, .slice none 0 0, .int .i64 0, .slice none 0 0, .slice none 0 0, .slice none 0 0] 34 (0, 0)) (by (with_reducible repeat (first | refine kA6 ?_ _ | refine kA8 ?_ | refine kA7 ?_ _)); exact a2.out) hb)
                         have n4_ := kA9 (below_step (by repeat (first | (with_reducible first | exact HB.out | apply kA5 | apply kA3 | apply kA4 | refine below_set ?_ a4.out | refine below_set ?_ a5.out) | exact HB.out)) hb)
                         clear a9
                         clear a0
                         clear a2
                         clear HB
                         have a9 := n0_
                         have a8 := n1_
                         have a0 := n2_
                         have a2 := n3_
                         have HB := n4_
                         clear n0_ n1_ n2_ n3_ n4_
                         clear hb an
                         refine hK.out _ _ ⟨(blk_cell a0.out 0).trans rfl, (blk_cell a0.out 1).trans rfl, (blk_cell a0.out 2).trans rfl, (blk_cell a0.out 3).trans rfl, (blk_cell a0.out 4).trans rfl, (blk_cell a0.out 5).trans rfl⟩ (fun hHeld => ?_)
                         clear hK K
                         refine norm_ (a' := ?_) ?_ ?_
                         rotate_left
                         ·show Act.put _ (some 16) _ = _
                          simp only [Act.put, sA0, sA1, sA2, i64_w, i32_w]
                          rfl
                         exact norm_ (by first | (simp only [putAll, Act.put, sA0, sA1, sA2]; done) | (simp only [putAll, Act.put, sA0, sA1, sA2]; rfl)) (hJ9_13 (ad, ac) _ ⟨hHeld, (by (with_reducible repeat (first | apply kA0 | apply kA1 | apply kA2)); exact Kd.R_mono a9.out (fun _ hk => hk.2)), (by (with_reducible repeat (first | apply kA0 | apply kA1 | apply kA2)); exact Kd.R_mono a8.out (fun _ hk => hk.2)), (by (with_reducible repeat (first | refine kA6 ?_ _ | refine kA8 ?_ | refine kA7 ?_ _)); exact a0.out), (by (with_reducible repeat (first | refine kA6 ?_ _ | refine kA8 ?_ | refine kA7 ?_ _)); exact a2.out), (by repeat (first | (with_reducible first | exact HB.out | apply kA5 | apply kA3 | apply kA4 | refine below_set ?_ a4.out | refine below_set ?_ a5.out) | exact HB.out))⟩)
                      ·skip
                       rintro ae w11 ⟨hS_, h0_, h1_, h2_, h3_⟩
                       have n0_ : Aside0 (Kd.R (Kd.int .i64) 3 w11 w.heap.size (fun _ => True) ae av) := ⟨h0_⟩
                       have n1_ : Aside0 (w11.heap[a1]? = some (.cells #[.slice A0_0 l0_0.length c0_0, .slice A0_1 l0_1.length c0_1, .int .i64 a0_2, .slice A0_3 l0_3.length c0_3, .slice A0_4 l0_4.length c0_4, .slice A0_5 l0_5.length c0_5] 34 (0, 0))) := ⟨h1_⟩
                       have n2_ : Aside0 (w11.heap[a3]? = some (.cells #[.slice none 0 0, .slice none 0 0, .int .i64 0, .slice none 0 0, .slice none 0 0, .slice none 0 0] 34 (0, 0))) := ⟨h2_⟩
                       have n3_ : Aside0 (Below w.heap.size w w11) := ⟨h3_⟩
                       clear a0
                       clear a2
                       clear HB
                       clear h0_ h1_ h2_ h3_
                       have aa := n0_
                       have a0 := n1_
                       have a2 := n2_
                       have HB := n3_
                       clear n0_ n1_ n2_ n3_
                       have hHeld : w11.cell? ⟨a1, 0, none⟩ = some (.slice A0_0 l0_0.length c0_0) ∧ w11.cell? ⟨a1, 1, none⟩ = some (.slice A0_1 l0_1.length c0_1) ∧ w11.cell? ⟨a1, 2, none⟩ = some (.int .i64 a0_2) ∧ w11.cell? ⟨a1, 3, none⟩ = some (.slice A0_3 l0_3.length c0_3) ∧ w11.cell? ⟨a1, 4, none⟩ = some (.slice A0_4 l0_4.length c0_4) ∧ w11.cell? ⟨a1, 5, none⟩ = some (.slice A0_5 l0_5.length c0_5) := hS_
                       refine norm_ (a' := ?_) ?_ ?_
                       rotate_left
                       ·simp only [putAll, Act.put, sA0, sA1, sA2]
                        rfl
                       refine three_ (i := 2) (j := 9) (k := 13) (Ni := some 5) (Nj := some 12) (Nk := some 16) #[true, true, true, true, true, true, true, true, false, false, true, true, false, false, true, true, false, false, false] #[true, true, false, true, true, true, true, true, false, true, true, true, false, false, true, true, false, false, false] #[true, true, false, true, true, true, true, true, false, false, true, true, false, true, true, true, false, false, false] rfl rfl rfl rfl rfl rfl (three_of HT_.out (by kernel_rfl)) (by decide) (by decide) (by decide) (fun K hK => ?_) (fun K hK => ?_) (fun K hK => ?_)
                       ·skip
                        refine goes_ Try.func65 (by kernel_rfl) rfl #[.agg #[.slice A0_0 l0_0.length c0_0, .slice A0_1 l0_1.length c0_1]] (by rfl) rfl rfl (by (try simp only [List.map_toArray, List.map_cons, List.map_nil]); first | done | rfl | (simp only [List.length_drop, List.length_take]; rfl)) ?_
                        with_reducible refine (spec_l03Copy.calls _ _ l0_0 _ _ l0_1 aj ak _ ?side1 ?side2 ?side3 ?side4 A2.out).mono ?_
                        (case side1 => repeat (first | exact (Kd.C_below bd.out HB.out) | (with_reducible refine Kd.C_alloc ?_ _) | (with_reducible refine Kd.C_drewN ?_ _) | (with_reducible refine Kd.C_drew ?_)))
                        (case side2 => exact be.out)
                        (case side3 => repeat (first | exact (Kd.C_below bf.out HB.out) | (with_reducible refine Kd.C_alloc ?_ _) | (with_reducible refine Kd.C_drewN ?_ _) | (with_reducible refine Kd.C_drew ?_)))
                        (case side4 => exact bg.out)
                        rintro e w12 ⟨ag, ah, rfl, ho0, ho1, hb⟩
                        refine ⟨_, rfl, ?_⟩
                        have n0_ := kA9 (Kd.R_below (by (with_reducible repeat (first | apply kA0 | apply kA1 | apply kA2)); exact aa.out) hb)
                        have n1_ := kA9 (Kd.R_lower ho0 (below_size (by repeat (first | (with_reducible first | exact HB.out | apply kA5 | apply kA3 | apply kA4 | refine below_set ?_ a4.out | refine below_set ?_ a5.out) | exact HB.out))))
                        have n2_ := kA9 (Kd.R_lower ho1 (below_size (by repeat (first | (with_reducible first | exact HB.out | apply kA5 | apply kA3 | apply kA4 | refine below_set ?_ a4.out | refine below_set ?_ a5.out) | exact HB.out))))
                        have n3_ := kA9 (blk_below (g := a1) (o := .cells #[.slice A0_0 l0_0.length c0_0, .slice A0_1 l0_1.length c0_1, .int .i64 a0_2, .slice A0_3 l0_3.length c0_3, .slice A0_4 l0_4.length c0_4, .slice A0_5 l0_5.length c0_5] 34 (0, 0)) (by (with_reducible repeat (first | refine kA6 ?_ _ | refine kA8 ?_ | refine kA7 ?_ _)); exact a0.out) hb)
                        have n4_ := kA9 (blk_below (g := a3) (o := .cells #[.slice none 0 0, .slice none 0 0, .int .i64 0, .slice none 0 0, .slice none 0 0, .slice none 0 0] 34 (0, 0)) (by (with_reducible repeat (first | refine kA6 ?_ _ | refine kA8 ?_ | refine kA7 ?_ _)); exact a2.out) hb)
                        have n5_ := kA9 (below_step (by repeat (first | (with_reducible first | exact HB.out | apply kA5 | apply kA3 | apply kA4 | refine below_set ?_ a4.out | refine below_set ?_ a5.out) | exact HB.out)) hb)
                        clear aa
                        clear a0
                        clear a2
                        clear HB
                        have aa := n0_
                        have a6 := n1_
                        have a7 := n2_
                        have a0 := n3_
                        have a2 := n4_
                        have HB := n5_
                        clear n0_ n1_ n2_ n3_ n4_ n5_
                        (try clear hb)
                        (try clear hb2)
                        (try clear hk)
                        (try clear hi)
                        (try clear ho0)
                        (try clear ho1)
                        refine hK.out _ _ ⟨(blk_cell a0.out 0).trans rfl, (blk_cell a0.out 1).trans rfl, (blk_cell a0.out 2).trans rfl, (blk_cell a0.out 3).trans rfl, (blk_cell a0.out 4).trans rfl, (blk_cell a0.out 5).trans rfl⟩ (fun hHeld => ?_)
                        clear hK K
                        refine norm_ (a' := ?_) ?_ ?_
                        rotate_left
                        ·show Act.put _ (some 5) _ = _
                         simp only [Act.put, sA0, sA1, sA2, i64_w, i32_w]
                         rfl
                        exact norm_ (by first | (simp only [putAll, Act.put, sA0, sA1, sA2]; done) | (simp only [putAll, Act.put, sA0, sA1, sA2]; rfl)) (hJ2_5 (ag, ah, ae) _ ⟨hHeld, (by (with_reducible repeat (first | apply kA0 | apply kA1 | apply kA2)); exact a6.out), (by (with_reducible repeat (first | apply kA0 | apply kA1 | apply kA2)); exact a7.out), (by (with_reducible repeat (first | apply kA0 | apply kA1 | apply kA2)); exact aa.out), (by (with_reducible repeat (first | refine kA6 ?_ _ | refine kA8 ?_ | refine kA7 ?_ _)); exact a0.out), (by (with_reducible repeat (first | refine kA6 ?_ _ | refine kA8 ?_ | refine kA7 ?_ _)); exact a2.out), (by repeat (first | (with_reducible first | exact HB.out | apply kA5 | apply kA3 | apply kA4 | refine below_set ?_ a4.out | refine below_set ?_ a5.out) | exact HB.out))⟩)
                       ·skip
                        refine Kd.R_lit_step (Kd.int .i64) _ 3 ?hg (N := 12) ?hd (xs := ([] : List Int)) (inner := []) (ok := fun _ => True) (okp := fun _ => True) ?hr ?hp (fun _ hk => hk) trivial (Below.refl _ _) (Nat.le_refl _) (by simp) ?_; (case hd => rfl); (case hg => rfl); (case hr => first | (go_simp; done) | (go_simp; rfl)); (case hp => exact (Reps.none _ _))
                        intro ad w12 an hb hg_ hnew_
                        clear hg_ hnew_
                        (first | rw [← ay.out] at an | (simp only [Int.reduceToNat] at an; rw [← ay.out] at an))
                        have n0_ := kA9 (Kd.R_elder' (by (with_reducible repeat (first | apply kA0 | apply kA1 | apply kA2)); exact aa.out) (Kd.R_base an) hb)
                        have n1_ := kA9 (Kd.R_lower (Kd.R_new' an (Kd.R_lt (by (with_reducible repeat (first | apply kA0 | apply kA1 | apply kA2)); exact aa.out))) (below_size (by repeat (first | (with_reducible first | exact HB.out | apply kA5 | apply kA3 | apply kA4 | refine below_set ?_ a4.out | refine below_set ?_ a5.out) | exact HB.out))))
                        have n2_ := kA9 (blk_below (g := a1) (o := .cells #[.slice A0_0 l0_0.length c0_0, .slice A0_1 l0_1.length c0_1, .int .i64 a0_2, .slice A0_3 l0_3.length c0_3, .slice A0_4 l0_4.length c0_4, .slice A0_5 l0_5.length c0_5] 34 (0, 0)) (by (with_reducible repeat (first | refine kA6 ?_ _ | refine kA8 ?_ | refine kA7 ?_ _)); exact a0.out) hb)
                        have n3_ := kA9 (blk_below (g := a3) (o := .cells #[.slice none 0 0, .slice none 0 0, .int .i64 0, .slice none 0 0, .slice none 0 0, .slice none 0 0] 34 (0, 0)) (by (with_reducible repeat (first | refine kA6 ?_ _ | refine kA8 ?_ | refine kA7 ?_ _)); exact a2.out) hb)
                        have n4_ := kA9 (below_step (by repeat (first | (with_reducible first | exact HB.out | apply kA5 | apply kA3 | apply kA4 | refine below_set ?_ a4.out | refine below_set ?_ a5.out) | exact HB.out)) hb)
                        clear aa
                        clear a0
                        clear a2
                        clear HB
                        have aa := n0_
                        have a9 := n1_
                        have a0 := n2_
                        have a2 := n3_
                        have HB := n4_
                        clear n0_ n1_ n2_ n3_ n4_
                        clear hb an
                        refine hK.out _ _ ⟨(blk_cell a0.out 0).trans rfl, (blk_cell a0.out 1).trans rfl, (blk_cell a0.out 2).trans rfl, (blk_cell a0.out 3).trans rfl, (blk_cell a0.out 4).trans rfl, (blk_cell a0.out 5).trans rfl⟩ (fun hHeld => ?_)
                        clear hK K
                        refine norm_ (a' := ?_) ?_ ?_
                        rotate_left
                        ·show Act.put _ (some 12) _ = _
                         simp only [Act.put, sA0, sA1, sA2, i64_w, i32_w]
                         rfl
                        exact norm_ (by first | (simp only [putAll, Act.put, sA0, sA1, sA2]; done) | (simp only [putAll, Act.put, sA0, sA1, sA2]; rfl)) (hJ5_9 (ae, ad) _ ⟨hHeld, (by (with_reducible repeat (first | apply kA0 | apply kA1 | apply kA2)); exact Kd.R_mono aa.out (fun _ hk => hk.2)), (by (with_reducible repeat (first | apply kA0 | apply kA1 | apply kA2)); exact Kd.R_mono a9.out (fun _ hk => hk.2)), (by (with_reducible repeat (first | refine kA6 ?_ _ | refine kA8 ?_ | refine kA7 ?_ _)); exact a0.out), (by (with_reducible repeat (first | refine kA6 ?_ _ | refine kA8 ?_ | refine kA7 ?_ _)); exact a2.out), (by repeat (first | (with_reducible first | exact HB.out | apply kA5 | apply kA3 | apply kA4 | refine below_set ?_ a4.out | refine below_set ?_ a5.out) | exact HB.out))⟩)
                       ·skip
                        refine Kd.R_lit_step (Kd.int .i64) _ 3 ?hg (N := 16) ?hd (xs := ([] : List Int)) (inner := []) (ok := fun _ => True) (okp := fun _ => True) ?hr ?hp (fun _ hk => hk) trivial (Below.refl _ _) (Nat.le_refl _) (by simp) ?_; (case hd => rfl); (case hg => rfl); (case hr => first | (go_simp; done) | (go_simp; rfl)); (case hp => exact (Reps.none _ _))
                        intro ac w12 an hb hg_ hnew_
                        clear hg_ hnew_
                        (first | rw [← ax.out] at an | (simp only [Int.reduceToNat] at an; rw [← ax.out] at an))
                        have n0_ := kA9 (Kd.R_elder' (by (with_reducible repeat (first | apply kA0 | apply kA1 | apply kA2)); exact aa.out) (Kd.R_base an) hb)
                        have n1_ := kA9 (Kd.R_lower (Kd.R_new' an (Kd.R_lt (by (with_reducible repeat (first | apply kA0 | apply kA1 | apply kA2)); exact aa.out))) (below_size (by repeat (first | (with_reducible first | exact HB.out | apply kA5 | apply kA3 | apply kA4 | refine below_set ?_ a4.out | refine below_set ?_ a5.out) | exact HB.out))))
                        have n2_ := kA9 (blk_below (g := a1) (o := .cells #[.slice A0_0 l0_0.length c0_0, .slice A0_1 l0_1.length c0_1, .int .i64 a0_2, .slice A0_3 l0_3.length c0_3, .slice A0_4 l0_4.length c0_4, .slice A0_5 l0_5.length c0_5] 34 (0, 0)) (by (with_reducible repeat (first | refine kA6 ?_ _ | refine kA8 ?_ | refine kA7 ?_ _)); exact a0.out) hb)
                        have n3_ := kA9 (blk_below (g := a3) (o := .cells #[.slice none 0 0, .slice none 0 0, .int .i64 0, .slice none 0 0, .slice none 0 0, .slice none 0 0] 34 (0, 0)) (by (with_reducible repeat (first | refine kA6 ?_ _ | refine kA8 ?_ | refine kA7 ?_ _)); exact a2.out) hb)
                        have n4_ := kA9 (below_step (by repeat (first | (with_reducible first | exact HB.out | apply kA5 | apply kA3 | apply kA4 | refine below_set ?_ a4.out | refine below_set ?_ a5.out) | exact HB.out)) hb)
                        clear aa
                        clear a0
                        clear a2
                        clear HB
                        have aa := n0_
                        have a8 := n1_
                        have a0 := n2_
                        have a2 := n3_
                        have HB := n4_
                        clear n0_ n1_ n2_ n3_ n4_
                        clear hb an
                        refine hK.out _ _ ⟨(blk_cell a0.out 0).trans rfl, (blk_cell a0.out 1).trans rfl, (blk_cell a0.out 2).trans rfl, (blk_cell a0.out 3).trans rfl, (blk_cell a0.out 4).trans rfl, (blk_cell a0.out 5).trans rfl⟩ (fun hHeld => ?_)
                        clear hK K
                        refine norm_ (a' := ?_) ?_ ?_
                        rotate_left
                        ·show Act.put _ (some 16) _ = _
                         simp only [Act.put, sA0, sA1, sA2, i64_w, i32_w]
                         rfl
                        exact norm_ (by first | (simp only [putAll, Act.put, sA0, sA1, sA2]; done) | (simp only [putAll, Act.put, sA0, sA1, sA2]; rfl)) (hJ5_13 (ae, ac) _ ⟨hHeld, (by (with_reducible repeat (first | apply kA0 | apply kA1 | apply kA2)); exact Kd.R_mono aa.out (fun _ hk => hk.2)), (by (with_reducible repeat (first | apply kA0 | apply kA1 | apply kA2)); exact Kd.R_mono a8.out (fun _ hk => hk.2)), (by (with_reducible repeat (first | refine kA6 ?_ _ | refine kA8 ?_ | refine kA7 ?_ _)); exact a0.out), (by (with_reducible repeat (first | refine kA6 ?_ _ | refine kA8 ?_ | refine kA7 ?_ _)); exact a2.out), (by repeat (first | (with_reducible first | exact HB.out | apply kA5 | apply kA3 | apply kA4 | refine below_set ?_ a4.out | refine below_set ?_ a5.out) | exact HB.out))⟩)
                     ·skip
                      rintro ⟨ag, ah⟩ w10 ⟨hS_, h0_, h1_, h2_, h3_, h4_⟩
                      have n0_ : Aside0 (Kd.R Kd.string 9 w10 w.heap.size (fun _ => True) ag aj) := ⟨h0_⟩
                      have n1_ : Aside0 (Kd.R k135 135 w10 w.heap.size (fun _ => True) ah ak) := ⟨h1_⟩
                      have n2_ : Aside0 (w10.heap[a1]? = some (.cells #[.slice A0_0 l0_0.length c0_0, .slice A0_1 l0_1.length c0_1, .int .i64 a0_2, .slice A0_3 l0_3.length c0_3, .slice A0_4 l0_4.length c0_4, .slice A0_5 l0_5.length c0_5] 34 (0, 0))) := ⟨h2_⟩
                      have n3_ : Aside0 (w10.heap[a3]? = some (.cells #[.slice none 0 0, .slice none 0 0, .int .i64 0, .slice none 0 0, .slice none 0 0, .slice none 0 0] 34 (0, 0))) := ⟨h3_⟩
                      have n4_ : Aside0 (Below w.heap.size w w10) := ⟨h4_⟩
                      clear a0
                      clear a2
                      clear HB
                      clear h0_ h1_ h2_ h3_ h4_
                      have a6 := n0_
                      have a7 := n1_
                      have a0 := n2_
                      have a2 := n3_
                      have HB := n4_
                      clear n0_ n1_ n2_ n3_ n4_
                      have hHeld : w10.cell? ⟨a1, 0, none⟩ = some (.slice A0_0 l0_0.length c0_0) ∧ w10.cell? ⟨a1, 1, none⟩ = some (.slice A0_1 l0_1.length c0_1) ∧ w10.cell? ⟨a1, 2, none⟩ = some (.int .i64 a0_2) ∧ w10.cell? ⟨a1, 3, none⟩ = some (.slice A0_3 l0_3.length c0_3) ∧ w10.cell? ⟨a1, 4, none⟩ = some (.slice A0_4 l0_4.length c0_4) ∧ w10.cell? ⟨a1, 5, none⟩ = some (.slice A0_5 l0_5.length c0_5) := hS_
                      refine norm_ (a' := ?_) ?_ ?_
                      rotate_left
                      ·simp only [putAll, Act.put, sA0, sA1, sA2]
                       rfl
                      refine three_ (i := 5) (j := 9) (k := 13) (Ni := some 8) (Nj := some 12) (Nk := some 16) #[true, true, true, true, true, true, true, true, false, false, true, true, false, false, true, true, false, false, false] #[true, true, true, true, true, false, true, true, false, true, true, true, false, false, true, true, false, false, false] #[true, true, true, true, true, false, true, true, false, false, true, true, false, true, true, true, false, false, false] rfl rfl rfl rfl rfl rfl (three_of HT_.out (by kernel_rfl)) (by decide) (by decide) (by decide) (fun K hK => ?_) (fun K hK => ?_) (fun K hK => ?_)
                      ·skip
                       refine Kd.R_lit_step (Kd.int .i64) _ 3 ?hg (N := 8) ?hd (xs := ([] : List Int)) (inner := []) (ok := fun _ => True) (okp := fun _ => True) ?hr ?hp (fun _ hk => hk) trivial (Below.refl _ _) (Nat.le_refl _) (by simp) ?_; (case hd => rfl); (case hg => rfl); (case hr => first | (go_simp; done) | (go_simp; rfl)); (case hp => exact (Reps.none _ _))
                       intro ae w11 b4 hb hg_ hnew_
                       clear hg_ hnew_
                       (first | rw [← b1.out] at b4 | (simp only [Int.reduceToNat] at b4; rw [← b1.out] at b4))
                       have n0_ := kA9 (Kd.R_below (by (with_reducible repeat (first | apply kA0 | apply kA1 | apply kA2)); exact a6.out) hb)
                       have n1_ := kA9 (Kd.R_below (by (with_reducible repeat (first | apply kA0 | apply kA1 | apply kA2)); exact a7.out) hb)
                       have n2_ := kA9 (Kd.R_lower b4 (below_size (by repeat (first | (with_reducible first | exact HB.out | apply kA5 | apply kA3 | apply kA4 | refine below_set ?_ a4.out | refine below_set ?_ a5.out) | exact HB.out))))
                       have n3_ := kA9 (blk_below (g := a1) (o := .cells #[.slice A0_0 l0_0.length c0_0, .slice A0_1 l0_1.length c0_1, .int .i64 a0_2, .slice A0_3 l0_3.length c0_3, .slice A0_4 l0_4.length c0_4, .slice A0_5 l0_5.length c0_5] 34 (0, 0)) (by (with_reducible repeat (first | refine kA6 ?_ _ | refine kA8 ?_ | refine kA7 ?_ _)); exact a0.out) hb)
                       have n4_ := kA9 (blk_below (g := a3) (o := .cells #[.slice none 0 0, .slice none 0 0, .int .i64 0, .slice none 0 0, .slice none 0 0, .slice none 0 0] 34 (0, 0)) (by (with_reducible repeat (first | refine kA6 ?_ _ | refine kA8 ?_ | refine kA7 ?_ _)); exact a2.out) hb)
                       have n5_ := kA9 (below_step (by repeat (first | (with_reducible first | exact HB.out | apply kA5 | apply kA3 | apply kA4 | refine below_set ?_ a4.out | refine below_set ?_ a5.out) | exact HB.out)) hb)
                       clear a6
                       clear a7
                       clear a0
                       clear a2
                       clear HB
                       have a6 := n0_
                       have a7 := n1_
                       have aa := n2_
                       have a0 := n3_
                       have a2 := n4_
                       have HB := n5_
                       clear n0_ n1_ n2_ n3_ n4_ n5_
                       clear hb b4
                       refine hK.out _ _ ⟨(blk_cell a0.out 0).trans rfl, (blk_cell a0.out 1).trans rfl, (blk_cell a0.out 2).trans rfl, (blk_cell a0.out 3).trans rfl, (blk_cell a0.out 4).trans rfl, (blk_cell a0.out 5).trans rfl⟩ (fun hHeld => ?_)
                       clear hK K
                       refine norm_ (a' := ?_) ?_ ?_
                       rotate_left
                       ·show Act.put _ (some 8) _ = _
                        simp only [Act.put, sA0, sA1, sA2, i64_w, i32_w]
                        rfl
                       exact norm_ (by first | (simp only [putAll, Act.put, sA0, sA1, sA2]; done) | (simp only [putAll, Act.put, sA0, sA1, sA2]; rfl)) (hJ2_5 (ag, ah, ae) _ ⟨hHeld, (by (with_reducible repeat (first | apply kA0 | apply kA1 | apply kA2)); exact a6.out), (by (with_reducible repeat (first | apply kA0 | apply kA1 | apply kA2)); exact a7.out), (by (with_reducible repeat (first | apply kA0 | apply kA1 | apply kA2)); exact aa.out), (by (with_reducible repeat (first | refine kA6 ?_ _ | refine kA8 ?_ | refine kA7 ?_ _)); exact a0.out), (by (with_reducible repeat (first | refine kA6 ?_ _ | refine kA8 ?_ | refine kA7 ?_ _)); exact a2.out), (by repeat (first | (with_reducible first | exact HB.out | apply kA5 | apply kA3 | apply kA4 | refine below_set ?_ a4.out | refine below_set ?_ a5.out) | exact HB.out))⟩)
                      ·skip
                       refine Kd.R_lit_step (Kd.int .i64) _ 3 ?hg (N := 12) ?hd (xs := ([] : List Int)) (inner := []) (ok := fun _ => True) (okp := fun _ => True) ?hr ?hp (fun _ hk => hk) trivial (Below.refl _ _) (Nat.le_refl _) (by simp) ?_; (case hd => rfl); (case hg => rfl); (case hr => first | (go_simp; done) | (go_simp; rfl)); (case hp => exact (Reps.none _ _))
                       intro ad w11 b4 hb hg_ hnew_
                       clear hg_ hnew_
                       (first | rw [← ay.out] at b4 | (simp only [Int.reduceToNat] at b4; rw [← ay.out] at b4))
                       have n0_ := kA9 (Kd.R_below (by (with_reducible repeat (first | apply kA0 | apply kA1 | apply kA2)); exact a6.out) hb)
                       have n1_ := kA9 (Kd.R_below (by (with_reducible repeat (first | apply kA0 | apply kA1 | apply kA2)); exact a7.out) hb)
                       have n2_ := kA9 (Kd.R_lower b4 (below_size (by repeat (first | (with_reducible first | exact HB.out | apply kA5 | apply kA3 | apply kA4 | refine below_set ?_ a4.out | refine below_set ?_ a5.out) | exact HB.out))))
                       have n3_ := kA9 (blk_below (g := a1) (o := .cells #[.slice A0_0 l0_0.length c0_0, .slice A0_1 l0_1.length c0_1, .int .i64 a0_2, .slice A0_3 l0_3.length c0_3, .slice A0_4 l0_4.length c0_4, .slice A0_5 l0_5.length c0_5] 34 (0, 0)) (by (with_reducible repeat (first | refine kA6 ?_ _ | refine kA8 ?_ | refine kA7 ?_ _)); exact a0.out) hb)
                       have n4_ := kA9 (blk_below (g := a3) (o := .cells #[.slice none 0 0, .slice none 0 0, .int .i64 0, .slice none 0 0, .slice none 0 0, .slice none 0 0] 34 (0, 0)) (by (with_reducible repeat (first | refine kA6 ?_ _ | refine kA8 ?_ | refine kA7 ?_ _)); exact a2.out) hb)
                       have n5_ := kA9 (below_step (by repeat (first | (with_reducible first | exact HB.out | apply kA5 | apply kA3 | apply kA4 | refine below_set ?_ a4.out | refine below_set ?_ a5.out) | exact HB.out)) hb)
                       clear a6
                       clear a7
                       clear a0
                       clear a2
                       clear HB
                       have a6 := n0_
                       have a7 := n1_
                       have a9 := n2_
                       have a0 := n3_
                       have a2 := n4_
                       have HB := n5_
                       clear n0_ n1_ n2_ n3_ n4_ n5_
                       clear hb b4
                       refine hK.out _ _ ⟨(blk_cell a0.out 0).trans rfl, (blk_cell a0.out 1).trans rfl, (blk_cell a0.out 2).trans rfl, (blk_cell a0.out 3).trans rfl, (blk_cell a0.out 4).trans rfl, (blk_cell a0.out 5).trans rfl⟩ (fun hHeld => ?_)
                       clear hK K
                       refine norm_ (a' := ?_) ?_ ?_
                       rotate_left
                       ·show Act.put _ (some 12) _ = _
                        simp only [Act.put, sA0, sA1, sA2, i64_w, i32_w]
                        rfl
                       exact norm_ (by first | (simp only [putAll, Act.put, sA0, sA1, sA2]; done) | (simp only [putAll, Act.put, sA0, sA1, sA2]; rfl)) (hJ2_9 (ag, ah, ad) _ ⟨hHeld, (by (with_reducible repeat (first | apply kA0 | apply kA1 | apply kA2)); exact a6.out), (by (with_reducible repeat (first | apply kA0 | apply kA1 | apply kA2)); exact a7.out), (by (with_reducible repeat (first | apply kA0 | apply kA1 | apply kA2)); exact a9.out), (by (with_reducible repeat (first | refine kA6 ?_ _ | refine kA8 ?_ | refine kA7 ?_ _)); exact a0.out), (by (with_reducible repeat (first | refine kA6 ?_ _ | refine kA8 ?_ | refine kA7 ?_ _)); exact a2.out), (by repeat (first | (with_reducible first | exact HB.out | apply kA5 | apply kA3 | apply kA4 | refine below_set ?_ a4.out | refine below_set ?_ a5.out) | exact HB.out))⟩)
                      ·skip
                       refine Kd.R_lit_step (Kd.int .i64) _ 3 ?hg (N := 16) ?hd (xs := ([] : List Int)) (inner := []) (ok := fun _ => True) (okp := fun _ => True) ?hr ?hp (fun _ hk => hk) trivial (Below.refl _ _) (Nat.le_refl _) (by simp) ?_; (case hd => rfl); (case hg => rfl); (case hr => first | (go_simp; done) | (go_simp; rfl)); (case hp => exact (Reps.none _ _))
                       intro ac w11 b4 hb hg_ hnew_
                       clear hg_ hnew_
                       (first | rw [← ax.out] at b4 | (simp only [Int.reduceToNat] at b4; rw [← ax.out] at b4))
                       have n0_ := kA9 (Kd.R_below (by (with_reducible repeat (first | apply kA0 | apply kA1 | apply kA2)); exact a6.out) hb)
                       have n1_ := kA9 (Kd.R_below (by (with_reducible repeat (first | apply kA0 | apply kA1 | apply kA2)); exact a7.out) hb)
                       have n2_ := kA9 (Kd.R_lower b4 (below_size (by repeat (first | (with_reducible first | exact HB.out | apply kA5 | apply kA3 | apply kA4 | refine below_set ?_ a4.out | refine below_set ?_ a5.out) | exact HB.out))))
                       have n3_ := kA9 (blk_below (g := a1) (o := .cells #[.slice A0_0 l0_0.length c0_0, .slice A0_1 l0_1.length c0_1, .int .i64 a0_2, .slice A0_3 l0_3.length c0_3, .slice A0_4 l0_4.length c0_4, .slice A0_5 l0_5.length c0_5] 34 (0, 0)) (by (with_reducible repeat (first | refine kA6 ?_ _ | refine kA8 ?_ | refine kA7 ?_ _)); exact a0.out) hb)
                       have n4_ := kA9 (blk_below (g := a3) (o := .cells #[.slice none 0 0, .slice none 0 0, .int .i64 0, .slice none 0 0, .slice none 0 0, .slice none 0 0] 34 (0, 0)) (by (with_reducible repeat (first | refine kA6 ?_ _ | refine kA8 ?_ | refine kA7 ?_ _)); exact a2.out) hb)
                       have n5_ := kA9 (below_step (by repeat (first | (with_reducible first | exact HB.out | apply kA5 | apply kA3 | apply kA4 | refine below_set ?_ a4.out | refine below_set ?_ a5.out) | exact HB.out)) hb)
                       clear a6
                       clear a7
                       clear a0
                       clear a2
                       clear HB
                       have a6 := n0_
                       have a7 := n1_
                       have a8 := n2_
                       have a0 := n3_
                       have a2 := n4_
                       have HB := n5_
                       clear n0_ n1_ n2_ n3_ n4_ n5_
                       clear hb b4
                       refine hK.out _ _ ⟨(blk_cell a0.out 0).trans rfl, (blk_cell a0.out 1).trans rfl, (blk_cell a0.out 2).trans rfl, (blk_cell a0.out 3).trans rfl, (blk_cell a0.out 4).trans rfl, (blk_cell a0.out 5).trans rfl⟩ (fun hHeld => ?_)
                       clear hK K
                       refine norm_ (a' := ?_) ?_ ?_
                       rotate_left
                       ·show Act.put _ (some 16) _ = _
                        simp only [Act.put, sA0, sA1, sA2, i64_w, i32_w]
                        rfl
                       exact norm_ (by first | (simp only [putAll, Act.put, sA0, sA1, sA2]; done) | (simp only [putAll, Act.put, sA0, sA1, sA2]; rfl)) (hJ2_13 (ag, ah, ac) _ ⟨hHeld, (by (with_reducible repeat (first | apply kA0 | apply kA1 | apply kA2)); exact a6.out), (by (with_reducible repeat (first | apply kA0 | apply kA1 | apply kA2)); exact a7.out), (by (with_reducible repeat (first | apply kA0 | apply kA1 | apply kA2)); exact a8.out), (by (with_reducible repeat (first | refine kA6 ?_ _ | refine kA8 ?_ | refine kA7 ?_ _)); exact a0.out), (by (with_reducible repeat (first | refine kA6 ?_ _ | refine kA8 ?_ | refine kA7 ?_ _)); exact a2.out), (by repeat (first | (with_reducible first | exact HB.out | apply kA5 | apply kA3 | apply kA4 | refine below_set ?_ a4.out | refine below_set ?_ a5.out) | exact HB.out))⟩)
                    ·skip
                     rintro ⟨ad, ac⟩ w13 ⟨hS_, h0_, h1_, h2_, h3_, h4_⟩
                     have n0_ : Aside0 (Kd.R (Kd.int .i64) 3 w13 w.heap.size (fun k_ => some k_ ≠ (ac : Value).ownBlock) ad aq) := ⟨h0_⟩
                     have n1_ : Aside0 (Kd.R (Kd.int .i64) 3 w13 w.heap.size (fun k_ => some k_ ≠ (ad : Value).ownBlock) ac am) := ⟨h1_⟩
                     have n2_ : Aside0 (w13.heap[a1]? = some (.cells #[.slice A0_0 l0_0.length c0_0, .slice A0_1 l0_1.length c0_1, .int .i64 a0_2, .slice A0_3 l0_3.length c0_3, .slice A0_4 l0_4.length c0_4, .slice A0_5 l0_5.length c0_5] 34 (0, 0))) := ⟨h2_⟩
                     have n3_ : Aside0 (w13.heap[a3]? = some (.cells #[.slice none 0 0, .slice none 0 0, .int .i64 0, .slice none 0 0, .slice none 0 0, .slice none 0 0] 34 (0, 0))) := ⟨h3_⟩
                     have n4_ : Aside0 (Below w.heap.size w w13) := ⟨h4_⟩
                     clear a0
                     clear a2
                     clear HB
                     clear h0_ h1_ h2_ h3_ h4_
                     have a9 := n0_
                     have a8 := n1_
                     have a0 := n2_
                     have a2 := n3_
                     have HB := n4_
                     clear n0_ n1_ n2_ n3_ n4_
                     have hHeld : w13.cell? ⟨a1, 0, none⟩ = some (.slice A0_0 l0_0.length c0_0) ∧ w13.cell? ⟨a1, 1, none⟩ = some (.slice A0_1 l0_1.length c0_1) ∧ w13.cell? ⟨a1, 2, none⟩ = some (.int .i64 a0_2) ∧ w13.cell? ⟨a1, 3, none⟩ = some (.slice A0_3 l0_3.length c0_3) ∧ w13.cell? ⟨a1, 4, none⟩ = some (.slice A0_4 l0_4.length c0_4) ∧ w13.cell? ⟨a1, 5, none⟩ = some (.slice A0_5 l0_5.length c0_5) := hS_
                     refine norm_ (a' := ?_) ?_ ?_
                     rotate_left
                     ·simp only [putAll, Act.put, sA0, sA1, sA2]
                      rfl
                     refine two_ (i := 2) (j := 5) (Ni := some 5) (Nj := some 8) #[true, true, true, true, true, false, true, true, false, true, true, true, false, true, true, true, false, false, false] #[true, true, false, true, true, true, true, true, false, true, true, true, false, true, true, true, false, false, false] rfl rfl rfl rfl (two_of HT_.out (by kernel_rfl)) (by decide) (by decide) (fun K hK => ?_) (fun K hK => ?_)
                     ·skip
                      refine goes_ Try.func65 (by kernel_rfl) rfl #[.agg #[.slice A0_0 l0_0.length c0_0, .slice A0_1 l0_1.length c0_1]] (by rfl) rfl rfl (by (try simp only [List.map_toArray, List.map_cons, List.map_nil]); first | done | rfl | (simp only [List.length_drop, List.length_take]; rfl)) ?_
                      with_reducible refine (spec_l03Copy.calls _ _ l0_0 _ _ l0_1 aj ak _ ?side1 ?side2 ?side3 ?side4 A2.out).mono ?_
                      (case side1 => repeat (first | exact (Kd.C_below bd.out HB.out) | (with_reducible refine Kd.C_alloc ?_ _) | (with_reducible refine Kd.C_drewN ?_ _) | (with_reducible refine Kd.C_drew ?_)))
                      (case side2 => exact be.out)
                      (case side3 => repeat (first | exact (Kd.C_below bf.out HB.out) | (with_reducible refine Kd.C_alloc ?_ _) | (with_reducible refine Kd.C_drewN ?_ _) | (with_reducible refine Kd.C_drew ?_)))
                      (case side4 => exact bg.out)
                      rintro e w14 ⟨ag, ah, rfl, ho0, ho1, hb⟩
                      refine ⟨_, rfl, ?_⟩
                      have n0_ := kA9 (Kd.R_below (by (with_reducible repeat (first | apply kA0 | apply kA1 | apply kA2)); exact a9.out) hb)
                      have n1_ := kA9 (Kd.R_below (by (with_reducible repeat (first | apply kA0 | apply kA1 | apply kA2)); exact a8.out) hb)
                      have n2_ := kA9 (Kd.R_lower ho0 (below_size (by repeat (first | (with_reducible first | exact HB.out | apply kA5 | apply kA3 | apply kA4 | refine below_set ?_ a4.out | refine below_set ?_ a5.out) | exact HB.out))))
                      have n3_ := kA9 (Kd.R_lower ho1 (below_size (by repeat (first | (with_reducible first | exact HB.out | apply kA5 | apply kA3 | apply kA4 | refine below_set ?_ a4.out | refine below_set ?_ a5.out) | exact HB.out))))
                      have n4_ := kA9 (blk_below (g := a1) (o := .cells #[.slice A0_0 l0_0.length c0_0, .slice A0_1 l0_1.length c0_1, .int .i64 a0_2, .slice A0_3 l0_3.length c0_3, .slice A0_4 l0_4.length c0_4, .slice A0_5 l0_5.length c0_5] 34 (0, 0)) (by (with_reducible repeat (first | refine kA6 ?_ _ | refine kA8 ?_ | refine kA7 ?_ _)); exact a0.out) hb)
                      have n5_ := kA9 (blk_below (g := a3) (o := .cells #[.slice none 0 0, .slice none 0 0, .int .i64 0, .slice none 0 0, .slice none 0 0, .slice none 0 0] 34 (0, 0)) (by (with_reducible repeat (first | refine kA6 ?_ _ | refine kA8 ?_ | refine kA7 ?_ _)); exact a2.out) hb)
                      have n6_ := kA9 (below_step (by repeat (first | (with_reducible first | exact HB.out | apply kA5 | apply kA3 | apply kA4 | refine below_set ?_ a4.out | refine below_set ?_ a5.out) | exact HB.out)) hb)
                      clear a9
                      clear a8
                      clear a0
                      clear a2
                      clear HB
                      have a9 := n0_
                      have a8 := n1_
                      have a6 := n2_
                      have a7 := n3_
                      have a0 := n4_
                      have a2 := n5_
                      have HB := n6_
                      clear n0_ n1_ n2_ n3_ n4_ n5_ n6_
                      (try clear hb)
                      (try clear hb2)
                      (try clear hk)
                      (try clear hi)
                      (try clear ho0)
                      (try clear ho1)
                      refine hK.out _ _ ⟨(blk_cell a0.out 0).trans rfl, (blk_cell a0.out 1).trans rfl, (blk_cell a0.out 2).trans rfl, (blk_cell a0.out 3).trans rfl, (blk_cell a0.out 4).trans rfl, (blk_cell a0.out 5).trans rfl⟩ (fun hHeld => ?_)
                      clear hK K
                      refine norm_ (a' := ?_) ?_ ?_
                      rotate_left
                      ·show Act.put _ (some 5) _ = _
                       simp only [Act.put, sA0, sA1, sA2, i64_w, i32_w]
                       rfl
                      exact norm_ (by first | (simp only [putAll, Act.put, sA0, sA1, sA2]; done) | (simp only [putAll, Act.put, sA0, sA1, sA2]; rfl)) (bq (ag, ah, ad, ac) _ ⟨hHeld, (by (with_reducible repeat (first | apply kA0 | apply kA1 | apply kA2)); exact a6.out), (by (with_reducible repeat (first | apply kA0 | apply kA1 | apply kA2)); exact a7.out), (by (with_reducible repeat (first | apply kA0 | apply kA1 | apply kA2)); exact a9.out), (by (with_reducible repeat (first | apply kA0 | apply kA1 | apply kA2)); exact a8.out), (by (with_reducible repeat (first | refine kA6 ?_ _ | refine kA8 ?_ | refine kA7 ?_ _)); exact a0.out), (by (with_reducible repeat (first | refine kA6 ?_ _ | refine kA8 ?_ | refine kA7 ?_ _)); exact a2.out), (by repeat (first | (with_reducible first | exact HB.out | apply kA5 | apply kA3 | apply kA4 | refine below_set ?_ a4.out | refine below_set ?_ a5.out) | exact HB.out))⟩)
                     ·skip
                      refine Kd.R_lit_step (Kd.int .i64) _ 3 ?hg (N := 8) ?hd (xs := ([] : List Int)) (inner := []) (ok := fun _ => True) (okp := fun _ => True) ?hr ?hp (fun _ hk => hk) trivial (Below.refl _ _) (Nat.le_refl _) (by simp) ?_; (case hd => rfl); (case hg => rfl); (case hr => first | (go_simp; done) | (go_simp; rfl)); (case hp => exact (Reps.none _ _))
                      intro ae w14 au hb hg_ hnew_
                      clear hg_ hnew_
                      (first | rw [← b1.out] at au | (simp only [Int.reduceToNat] at au; rw [← b1.out] at au))
                      have n0_ := kA9 (Kd.R_elder' (by (with_reducible repeat (first | apply kA0 | apply kA1 | apply kA2)); exact a9.out) (Kd.R_base au) hb)
                      have n1_ := kA9 (Kd.R_elder' (by (with_reducible repeat (first | apply kA0 | apply kA1 | apply kA2)); exact a8.out) (Kd.R_base au) hb)
                      have n2_ := kA9 (Kd.R_lower (Kd.R_new' (Kd.R_new' au (Kd.R_lt (by (with_reducible repeat (first | apply kA0 | apply kA1 | apply kA2)); exact a9.out))) (Kd.R_lt (by (with_reducible repeat (first | apply kA0 | apply kA1 | apply kA2)); exact a8.out))) (below_size (by repeat (first | (with_reducible first | exact HB.out | apply kA5 | apply kA3 | apply kA4 | refine below_set ?_ a4.out | refine below_set ?_ a5.out) | exact HB.out))))
                      have n3_ := kA9 (blk_below (g := a1) (o := .cells #[.slice A0_0 l0_0.length c0_0, .slice A0_1 l0_1.length c0_1, .int .i64 a0_2, .slice A0_3 l0_3.length c0_3, .slice A0_4 l0_4.length c0_4, .slice A0_5 l0_5.length c0_5] 34 (0, 0)) (by (with_reducible repeat (first | refine kA6 ?_ _ | refine kA8 ?_ | refine kA7 ?_ _)); exact a0.out) hb)
                      have n4_ := kA9 (blk_below (g := a3) (o := .cells #[.slice none 0 0, .slice none 0 0, .int .i64 0, .slice none 0 0, .slice none 0 0, .slice none 0 0] 34 (0, 0)) (by (with_reducible repeat (first | refine kA6 ?_ _ | refine kA8 ?_ | refine kA7 ?_ _)); exact a2.out) hb)
                      have n5_ := kA9 (below_step (by repeat (first | (with_reducible first | exact HB.out | apply kA5 | apply kA3 | apply kA4 | refine below_set ?_ a4.out | refine below_set ?_ a5.out) | exact HB.out)) hb)
                      clear a9
                      clear a8
                      clear a0
                      clear a2
                      clear HB
                      have a9 := n0_
                      have a8 := n1_
                      have aa := n2_
                      have a0 := n3_
                      have a2 := n4_
                      have HB := n5_
                      clear n0_ n1_ n2_ n3_ n4_ n5_
                      clear hb au
                      refine hK.out _ _ ⟨(blk_cell a0.out 0).trans rfl, (blk_cell a0.out 1).trans rfl, (blk_cell a0.out 2).trans rfl, (blk_cell a0.out 3).trans rfl, (blk_cell a0.out 4).trans rfl, (blk_cell a0.out 5).trans rfl⟩ (fun hHeld => ?_)
                      clear hK K
                      refine norm_ (a' := ?_) ?_ ?_
                      rotate_left
                      ·show Act.put _ (some 8) _ = _
                       simp only [Act.put, sA0, sA1, sA2, i64_w, i32_w]
                       rfl
                      exact norm_ (by first | (simp only [putAll, Act.put, sA0, sA1, sA2]; done) | (simp only [putAll, Act.put, sA0, sA1, sA2]; rfl)) (br (ae, ad, ac) _ ⟨hHeld, (by (with_reducible repeat (first | apply kA0 | apply kA1 | apply kA2)); exact Kd.R_mono aa.out (fun _ hk => ⟨hk.1.2, hk.2⟩)), (by (with_reducible repeat (first | apply kA0 | apply kA1 | apply kA2)); exact Kd.R_mono a9.out (fun _ hk => ⟨hk.2, hk.1⟩)), (by (with_reducible repeat (first | apply kA0 | apply kA1 | apply kA2)); exact Kd.R_mono a8.out (fun _ hk => ⟨hk.2, hk.1⟩)), (by (with_reducible repeat (first | refine kA6 ?_ _ | refine kA8 ?_ | refine kA7 ?_ _)); exact a0.out), (by (with_reducible repeat (first | refine kA6 ?_ _ | refine kA8 ?_ | refine kA7 ?_ _)); exact a2.out), (by repeat (first | (with_reducible first | exact HB.out | apply kA5 | apply kA3 | apply kA4 | refine below_set ?_ a4.out | refine below_set ?_ a5.out) | exact HB.out))⟩)
                   ·skip
                    rintro ⟨ae, ac⟩ w13 ⟨hS_, h0_, h1_, h2_, h3_, h4_⟩
                    have n0_ : Aside0 (Kd.R (Kd.int .i64) 3 w13 w.heap.size (fun k_ => some k_ ≠ (ac : Value).ownBlock) ae av) := ⟨h0_⟩
                    have n1_ : Aside0 (Kd.R (Kd.int .i64) 3 w13 w.heap.size (fun k_ => some k_ ≠ (ae : Value).ownBlock) ac am) := ⟨h1_⟩
                    have n2_ : Aside0 (w13.heap[a1]? = some (.cells #[.slice A0_0 l0_0.length c0_0, .slice A0_1 l0_1.length c0_1, .int .i64 a0_2, .slice A0_3 l0_3.length c0_3, .slice A0_4 l0_4.length c0_4, .slice A0_5 l0_5.length c0_5] 34 (0, 0))) := ⟨h2_⟩
                    have n3_ : Aside0 (w13.heap[a3]? = some (.cells #[.slice none 0 0, .slice none 0 0, .int .i64 0, .slice none 0 0, .slice none 0 0, .slice none 0 0] 34 (0, 0))) := ⟨h3_⟩
                    have n4_ : Aside0 (Below w.heap.size w w13) := ⟨h4_⟩
                    clear a0
                    clear a2
                    clear HB
                    clear h0_ h1_ h2_ h3_ h4_
                    have aa := n0_
                    have a8 := n1_
                    have a0 := n2_
                    have a2 := n3_
                    have HB := n4_
                    clear n0_ n1_ n2_ n3_ n4_
                    have hHeld : w13.cell? ⟨a1, 0, none⟩ = some (.slice A0_0 l0_0.length c0_0) ∧ w13.cell? ⟨a1, 1, none⟩ = some (.slice A0_1 l0_1.length c0_1) ∧ w13.cell? ⟨a1, 2, none⟩ = some (.int .i64 a0_2) ∧ w13.cell? ⟨a1, 3, none⟩ = some (.slice A0_3 l0_3.length c0_3) ∧ w13.cell? ⟨a1, 4, none⟩ = some (.slice A0_4 l0_4.length c0_4) ∧ w13.cell? ⟨a1, 5, none⟩ = some (.slice A0_5 l0_5.length c0_5) := hS_
                    refine norm_ (a' := ?_) ?_ ?_
                    rotate_left
                    ·simp only [putAll, Act.put, sA0, sA1, sA2]
                     rfl
                    refine two_ (i := 2) (j := 9) (Ni := some 5) (Nj := some 12) #[true, true, true, true, true, true, true, true, false, false, true, true, false, true, true, true, false, false, false] #[true, true, false, true, true, true, true, true, false, true, true, true, false, true, true, true, false, false, false] rfl rfl rfl rfl (two_of HT_.out (by kernel_rfl)) (by decide) (by decide) (fun K hK => ?_) (fun K hK => ?_)
                    ·skip
                     refine goes_ Try.func65 (by kernel_rfl) rfl #[.agg #[.slice A0_0 l0_0.length c0_0, .slice A0_1 l0_1.length c0_1]] (by rfl) rfl rfl (by (try simp only [List.map_toArray, List.map_cons, List.map_nil]); first | done | rfl | (simp only [List.length_drop, List.length_take]; rfl)) ?_
                     with_reducible refine (spec_l03Copy.calls _ _ l0_0 _ _ l0_1 aj ak _ ?side1 ?side2 ?side3 ?side4 A2.out).mono ?_
                     (case side1 => repeat (first | exact (Kd.C_below bd.out HB.out) | (with_reducible refine Kd.C_alloc ?_ _) | (with_reducible refine Kd.C_drewN ?_ _) | (with_reducible refine Kd.C_drew ?_)))
                     (case side2 => exact be.out)
                     (case side3 => repeat (first | exact (Kd.C_below bf.out HB.out) | (with_reducible refine Kd.C_alloc ?_ _) | (with_reducible refine Kd.C_drewN ?_ _) | (with_reducible refine Kd.C_drew ?_)))
                     (case side4 => exact bg.out)
                     rintro e w14 ⟨ag, ah, rfl, ho0, ho1, hb⟩
                     refine ⟨_, rfl, ?_⟩
                     have n0_ := kA9 (Kd.R_below (by (with_reducible repeat (first | apply kA0 | apply kA1 | apply kA2)); exact aa.out) hb)
                     have n1_ := kA9 (Kd.R_below (by (with_reducible repeat (first | apply kA0 | apply kA1 | apply kA2)); exact a8.out) hb)
                     have n2_ := kA9 (Kd.R_lower ho0 (below_size (by repeat (first | (with_reducible first | exact HB.out | apply kA5 | apply kA3 | apply kA4 | refine below_set ?_ a4.out | refine below_set ?_ a5.out) | exact HB.out))))
                     have n3_ := kA9 (Kd.R_lower ho1 (below_size (by repeat (first | (with_reducible first | exact HB.out | apply kA5 | apply kA3 | apply kA4 | refine below_set ?_ a4.out | refine below_set ?_ a5.out) | exact HB.out))))
                     have n4_ := kA9 (blk_below (g := a1) (o := .cells #[.slice A0_0 l0_0.length c0_0, .slice A0_1 l0_1.length c0_1, .int .i64 a0_2, .slice A0_3 l0_3.length c0_3, .slice A0_4 l0_4.length c0_4, .slice A0_5 l0_5.length c0_5] 34 (0, 0)) (by (with_reducible repeat (first | refine kA6 ?_ _ | refine kA8 ?_ | refine kA7 ?_ _)); exact a0.out) hb)
                     have n5_ := kA9 (blk_below (g := a3) (o := .cells #[.slice none 0 0, .slice none 0 0, .int .i64 0, .slice none 0 0, .slice none 0 0, .slice none 0 0] 34 (0, 0)) (by (with_reducible repeat (first | refine kA6 ?_ _ | refine kA8 ?_ | refine kA7 ?_ _)); exact a2.out) hb)
                     have n6_ := kA9 (below_step (by repeat (first | (with_reducible first | exact HB.out | apply kA5 | apply kA3 | apply kA4 | refine below_set ?_ a4.out | refine below_set ?_ a5.out) | exact HB.out)) hb)
                     clear aa
                     clear a8
                     clear a0
                     clear a2
                     clear HB
                     have aa := n0_
                     have a8 := n1_
                     have a6 := n2_
                     have a7 := n3_
                     have a0 := n4_
                     have a2 := n5_
                     have HB := n6_
                     clear n0_ n1_ n2_ n3_ n4_ n5_ n6_
                     (try clear hb)
                     (try clear hb2)
                     (try clear hk)
                     (try clear hi)
                     (try clear ho0)
                     (try clear ho1)
                     refine hK.out _ _ ⟨(blk_cell a0.out 0).trans rfl, (blk_cell a0.out 1).trans rfl, (blk_cell a0.out 2).trans rfl, (blk_cell a0.out 3).trans rfl, (blk_cell a0.out 4).trans rfl, (blk_cell a0.out 5).trans rfl⟩ (fun hHeld => ?_)
                     clear hK K
                     refine norm_ (a' := ?_) ?_ ?_
                     rotate_left
                     ·show Act.put _ (some 5) _ = _
                      simp only [Act.put, sA0, sA1, sA2, i64_w, i32_w]
                      rfl
                     exact norm_ (by first | (simp only [putAll, Act.put, sA0, sA1, sA2]; done) | (simp only [putAll, Act.put, sA0, sA1, sA2]; rfl)) (bp (ag, ah, ae, ac) _ ⟨hHeld, (by (with_reducible repeat (first | apply kA0 | apply kA1 | apply kA2)); exact a6.out), (by (with_reducible repeat (first | apply kA0 | apply kA1 | apply kA2)); exact a7.out), (by (with_reducible repeat (first | apply kA0 | apply kA1 | apply kA2)); exact aa.out), (by (with_reducible repeat (first | apply kA0 | apply kA1 | apply kA2)); exact a8.out), (by (with_reducible repeat (first | refine kA6 ?_ _ | refine kA8 ?_ | refine kA7 ?_ _)); exact a0.out), (by (with_reducible repeat (first | refine kA6 ?_ _ | refine kA8 ?_ | refine kA7 ?_ _)); exact a2.out), (by repeat (first | (with_reducible first | exact HB.out | apply kA5 | apply kA3 | apply kA4 | refine below_set ?_ a4.out | refine below_set ?_ a5.out) | exact HB.out))⟩)
                    ·skip
                     refine Kd.R_lit_step (Kd.int .i64) _ 3 ?hg (N := 12) ?hd (xs := ([] : List Int)) (inner := []) (ok := fun _ => True) (okp := fun _ => True) ?hr ?hp (fun _ hk => hk) trivial (Below.refl _ _) (Nat.le_refl _) (by simp) ?_; (case hd => rfl); (case hg => rfl); (case hr => first | (go_simp; done) | (go_simp; rfl)); (case hp => exact (Reps.none _ _))
                     intro ad w14 au hb hg_ hnew_
                     clear hg_ hnew_
                     (first | rw [← ay.out] at au | (simp only [Int.reduceToNat] at au; rw [← ay.out] at au))
                     have n0_ := kA9 (Kd.R_elder' (by (with_reducible repeat (first | apply kA0 | apply kA1 | apply kA2)); exact aa.out) (Kd.R_base au) hb)
                     have n1_ := kA9 (Kd.R_elder' (by (with_reducible repeat (first | apply kA0 | apply kA1 | apply kA2)); exact a8.out) (Kd.R_base au) hb)
                     have n2_ := kA9 (Kd.R_lower (Kd.R_new' (Kd.R_new' au (Kd.R_lt (by (with_reducible repeat (first | apply kA0 | apply kA1 | apply kA2)); exact aa.out))) (Kd.R_lt (by (with_reducible repeat (first | apply kA0 | apply kA1 | apply kA2)); exact a8.out))) (below_size (by repeat (first | (with_reducible first | exact HB.out | apply kA5 | apply kA3 | apply kA4 | refine below_set ?_ a4.out | refine below_set ?_ a5.out) | exact HB.out))))
                     have n3_ := kA9 (blk_below (g := a1) (o := .cells #[.slice A0_0 l0_0.length c0_0, .slice A0_1 l0_1.length c0_1, .int .i64 a0_2, .slice A0_3 l0_3.length c0_3, .slice A0_4 l0_4.length c0_4, .slice A0_5 l0_5.length c0_5] 34 (0, 0)) (by (with_reducible repeat (first | refine kA6 ?_ _ | refine kA8 ?_ | refine kA7 ?_ _)); exact a0.out) hb)
                     have n4_ := kA9 (blk_below (g := a3) (o := .cells #[.slice none 0 0, .slice none 0 0, .int .i64 0, .slice none 0 0, .slice none 0 0, .slice none 0 0] 34 (0, 0)) (by (with_reducible repeat (first | refine kA6 ?_ _ | refine kA8 ?_ | refine kA7 ?_ _)); exact a2.out) hb)
                     have n5_ := kA9 (below_step (by repeat (first | (with_reducible first | exact HB.out | apply kA5 | apply kA3 | apply kA4 | refine below_set ?_ a4.out | refine below_set ?_ a5.out) | exact HB.out)) hb)
                     clear aa
                     clear a8
                     clear a0
                     clear a2
                     clear HB
                     have aa := n0_
                     have a8 := n1_
                     have a9 := n2_
                     have a0 := n3_
                     have a2 := n4_
                     have HB := n5_
                     clear n0_ n1_ n2_ n3_ n4_ n5_
                     clear hb au
                     refine hK.out _ _ ⟨(blk_cell a0.out 0).trans rfl, (blk_cell a0.out 1).trans rfl, (blk_cell a0.out 2).trans rfl, (blk_cell a0.out 3).trans rfl, (blk_cell a0.out 4).trans rfl, (blk_cell a0.out 5).trans rfl⟩ (fun hHeld => ?_)
                     clear hK K
                     refine norm_ (a' := ?_) ?_ ?_
                     rotate_left
                     ·show Act.put _ (some 12) _ = _
                      simp only [Act.put, sA0, sA1, sA2, i64_w, i32_w]
                      rfl
                     exact norm_ (by first | (simp only [putAll, Act.put, sA0, sA1, sA2]; done) | (simp only [putAll, Act.put, sA0, sA1, sA2]; rfl)) (br (ae, ad, ac) _ ⟨hHeld, (by (with_reducible repeat (first | apply kA0 | apply kA1 | apply kA2)); exact Kd.R_mono aa.out (fun _ hk => ⟨hk.2, hk.1⟩)), (by (with_reducible repeat (first | apply kA0 | apply kA1 | apply kA2)); exact Kd.R_mono a9.out (fun _ hk => ⟨hk.1.2, hk.2⟩)), (by (with_reducible repeat (first | apply kA0 | apply kA1 | apply kA2)); exact a8.out), (by (with_reducible repeat (first | refine kA6 ?_ _ | refine kA8 ?_ | refine kA7 ?_ _)); exact a0.out), (by (with_reducible repeat (first | refine kA6 ?_ _ | refine kA8 ?_ | refine kA7 ?_ _)); exact a2.out), (by repeat (first | (with_reducible first | exact HB.out | apply kA5 | apply kA3 | apply kA4 | refine below_set ?_ a4.out | refine below_set ?_ a5.out) | exact HB.out))⟩)
                  ·skip
                   rintro ⟨ae, ad⟩ w13 ⟨hS_, h0_, h1_, h2_, h3_, h4_⟩
                   have n0_ : Aside0 (Kd.R (Kd.int .i64) 3 w13 w.heap.size (fun k_ => some k_ ≠ (ad : Value).ownBlock) ae av) := ⟨h0_⟩
                   have n1_ : Aside0 (Kd.R (Kd.int .i64) 3 w13 w.heap.size (fun k_ => some k_ ≠ (ae : Value).ownBlock) ad aq) := ⟨h1_⟩
                   have n2_ : Aside0 (w13.heap[a1]? = some (.cells #[.slice A0_0 l0_0.length c0_0, .slice A0_1 l0_1.length c0_1, .int .i64 a0_2, .slice A0_3 l0_3.length c0_3, .slice A0_4 l0_4.length c0_4, .slice A0_5 l0_5.length c0_5] 34 (0, 0))) := ⟨h2_⟩
                   have n3_ : Aside0 (w13.heap[a3]? = some (.cells #[.slice none 0 0, .slice none 0 0, .int .i64 0, .slice none 0 0, .slice none 0 0, .slice none 0 0] 34 (0, 0))) := ⟨h3_⟩
                   have n4_ : Aside0 (Below w.heap.size w w13) := ⟨h4_⟩
                   clear a0
                   clear a2
                   clear HB
                   clear h0_ h1_ h2_ h3_ h4_
                   have aa := n0_
                   have a9 := n1_
                   have a0 := n2_
                   have a2 := n3_
                   have HB := n4_
                   clear n0_ n1_ n2_ n3_ n4_
                   have hHeld : w13.cell? ⟨a1, 0, none⟩ = some (.slice A0_0 l0_0.length c0_0) ∧ w13.cell? ⟨a1, 1, none⟩ = some (.slice A0_1 l0_1.length c0_1) ∧ w13.cell? ⟨a1, 2, none⟩ = some (.int .i64 a0_2) ∧ w13.cell? ⟨a1, 3, none⟩ = some (.slice A0_3 l0_3.length c0_3) ∧ w13.cell? ⟨a1, 4, none⟩ = some (.slice A0_4 l0_4.length c0_4) ∧ w13.cell? ⟨a1, 5, none⟩ = some (.slice A0_5 l0_5.length c0_5) := hS_
                   refine norm_ (a' := ?_) ?_ ?_
                   rotate_left
                   ·simp only [putAll, Act.put, sA0, sA1, sA2]
                    rfl
                   refine two_ (i := 2) (j := 13) (Ni := some 5) (Nj := some 16) #[true, true, true, true, true, true, true, true, false, true, true, true, false, false, true, true, false, false, false] #[true, true, false, true, true, true, true, true, false, true, true, true, false, true, true, true, false, false, false] rfl rfl rfl rfl (two_of HT_.out (by kernel_rfl)) (by decide) (by decide) (fun K hK => ?_) (fun K hK => ?_)
                   ·skip
                    refine goes_ Try.func65 (by kernel_rfl) rfl #[.agg #[.slice A0_0 l0_0.length c0_0, .slice A0_1 l0_1.length c0_1]] (by rfl) rfl rfl (by (try simp only [List.map_toArray, List.map_cons, List.map_nil]); first | done | rfl | (simp only [List.length_drop, List.length_take]; rfl)) ?_
                    with_reducible refine (spec_l03Copy.calls _ _ l0_0 _ _ l0_1 aj ak _ ?side1 ?side2 ?side3 ?side4 A2.out).mono ?_
                    (case side1 => repeat (first | exact (Kd.C_below bd.out HB.out) | (with_reducible refine Kd.C_alloc ?_ _) | (with_reducible refine Kd.C_drewN ?_ _) | (with_reducible refine Kd.C_drew ?_)))
                    (case side2 => exact be.out)
                    (case side3 => repeat (first | exact (Kd.C_below bf.out HB.out) | (with_reducible refine Kd.C_alloc ?_ _) | (with_reducible refine Kd.C_drewN ?_ _) | (with_reducible refine Kd.C_drew ?_)))
                    (case side4 => exact bg.out)
                    rintro e w14 ⟨ag, ah, rfl, ho0, ho1, hb⟩
                    refine ⟨_, rfl, ?_⟩
                    have n0_ := kA9 (Kd.R_below (by (with_reducible repeat (first | apply kA0 | apply kA1 | apply kA2)); exact aa.out) hb)
                    have n1_ := kA9 (Kd.R_below (by (with_reducible repeat (first | apply kA0 | apply kA1 | apply kA2)); exact a9.out) hb)
                    have n2_ := kA9 (Kd.R_lower ho0 (below_size (by repeat (first | (with_reducible first | exact HB.out | apply kA5 | apply kA3 | apply kA4 | refine below_set ?_ a4.out | refine below_set ?_ a5.out) | exact HB.out))))
                    have n3_ := kA9 (Kd.R_lower ho1 (below_size (by repeat (first | (with_reducible first | exact HB.out | apply kA5 | apply kA3 | apply kA4 | refine below_set ?_ a4.out | refine below_set ?_ a5.out) | exact HB.out))))
                    have n4_ := kA9 (blk_below (g := a1) (o := .cells #[.slice A0_0 l0_0.length c0_0, .slice A0_1 l0_1.length c0_1, .int .i64 a0_2, .slice A0_3 l0_3.length c0_3, .slice A0_4 l0_4.length c0_4, .slice A0_5 l0_5.length c0_5] 34 (0, 0)) (by (with_reducible repeat (first | refine kA6 ?_ _ | refine kA8 ?_ | refine kA7 ?_ _)); exact a0.out) hb)
                    have n5_ := kA9 (blk_below (g := a3) (o := .cells #[.slice none 0 0, .slice none 0 0, .int .i64 0, .slice none 0 0, .slice none 0 0, .slice none 0 0] 34 (0, 0)) (by (with_reducible repeat (first | refine kA6 ?_ _ | refine kA8 ?_ | refine kA7 ?_ _)); exact a2.out) hb)
                    have n6_ := kA9 (below_step (by repeat (first | (with_reducible first | exact HB.out | apply kA5 | apply kA3 | apply kA4 | refine below_set ?_ a4.out | refine below_set ?_ a5.out) | exact HB.out)) hb)
                    clear aa
                    clear a9
                    clear a0
                    clear a2
                    clear HB
                    have aa := n0_
                    have a9 := n1_
                    have a6 := n2_
                    have a7 := n3_
                    have a0 := n4_
                    have a2 := n5_
                    have HB := n6_
                    clear n0_ n1_ n2_ n3_ n4_ n5_ n6_
                    (try clear hb)
                    (try clear hb2)
                    (try clear hk)
                    (try clear hi)
                    (try clear ho0)
                    (try clear ho1)
                    refine hK.out _ _ ⟨(blk_cell a0.out 0).trans rfl, (blk_cell a0.out 1).trans rfl, (blk_cell a0.out 2).trans rfl, (blk_cell a0.out 3).trans rfl, (blk_cell a0.out 4).trans rfl, (blk_cell a0.out 5).trans rfl⟩ (fun hHeld => ?_)
                    clear hK K
                    refine norm_ (a' := ?_) ?_ ?_
                    rotate_left
                    ·show Act.put _ (some 5) _ = _
                     simp only [Act.put, sA0, sA1, sA2, i64_w, i32_w]
                     rfl
                    exact norm_ (by first | (simp only [putAll, Act.put, sA0, sA1, sA2]; done) | (simp only [putAll, Act.put, sA0, sA1, sA2]; rfl)) (c6 (ag, ah, ae, ad) _ ⟨hHeld, (by (with_reducible repeat (first | apply kA0 | apply kA1 | apply kA2)); exact a6.out), (by (with_reducible repeat (first | apply kA0 | apply kA1 | apply kA2)); exact a7.out), (by (with_reducible repeat (first | apply kA0 | apply kA1 | apply kA2)); exact aa.out), (by (with_reducible repeat (first | apply kA0 | apply kA1 | apply kA2)); exact a9.out), (by (with_reducible repeat (first | refine kA6 ?_ _ | refine kA8 ?_ | refine kA7 ?_ _)); exact a0.out), (by (with_reducible repeat (first | refine kA6 ?_ _ | refine kA8 ?_ | refine kA7 ?_ _)); exact a2.out), (by repeat (first | (with_reducible first | exact HB.out | apply kA5 | apply kA3 | apply kA4 | refine below_set ?_ a4.out | refine below_set ?_ a5.out) | exact HB.out))⟩)
                   ·skip
                    refine Kd.R_lit_step (Kd.int .i64) _ 3 ?hg (N := 16) ?hd (xs := ([] : List Int)) (inner := []) (ok := fun _ => True) (okp := fun _ => True) ?hr ?hp (fun _ hk => hk) trivial (Below.refl _ _) (Nat.le_refl _) (by simp) ?_; (case hd => rfl); (case hg => rfl); (case hr => first | (go_simp; done) | (go_simp; rfl)); (case hp => exact (Reps.none _ _))
                    intro ac w14 au hb hg_ hnew_
                    clear hg_ hnew_
                    (first | rw [← ax.out] at au | (simp only [Int.reduceToNat] at au; rw [← ax.out] at au))
                    have n0_ := kA9 (Kd.R_elder' (by (with_reducible repeat (first | apply kA0 | apply kA1 | apply kA2)); exact aa.out) (Kd.R_base au) hb)
                    have n1_ := kA9 (Kd.R_elder' (by (with_reducible repeat (first | apply kA0 | apply kA1 | apply kA2)); exact a9.out) (Kd.R_base au) hb)
                    have n2_ := kA9 (Kd.R_lower (Kd.R_new' (Kd.R_new' au (Kd.R_lt (by (with_reducible repeat (first | apply kA0 | apply kA1 | apply kA2)); exact aa.out))) (Kd.R_lt (by (with_reducible repeat (first | apply kA0 | apply kA1 | apply kA2)); exact a9.out))) (below_size (by repeat (first | (with_reducible first | exact HB.out | apply kA5 | apply kA3 | apply kA4 | refine below_set ?_ a4.out | refine below_set ?_ a5.out) | exact HB.out))))
                    have n3_ := kA9 (blk_below (g := a1) (o := .cells #[.slice A0_0 l0_0.length c0_0, .slice A0_1 l0_1.length c0_1, .int .i64 a0_2, .slice A0_3 l0_3.length c0_3, .slice A0_4 l0_4.length c0_4, .slice A0_5 l0_5.length c0_5] 34 (0, 0)) (by (with_reducible repeat (first | refine kA6 ?_ _ | refine kA8 ?_ | refine kA7 ?_ _)); exact a0.out) hb)
                    have n4_ := kA9 (blk_below (g := a3) (o := .cells #[.slice none 0 0, .slice none 0 0, .int .i64 0, .slice none 0 0, .slice none 0 0, .slice none 0 0] 34 (0, 0)) (by (with_reducible repeat (first | refine kA6 ?_ _ | refine kA8 ?_ | refine kA7 ?_ _)); exact a2.out) hb)
                    have n5_ := kA9 (below_step (by repeat (first | (with_reducible first | exact HB.out | apply kA5 | apply kA3 | apply kA4 | refine below_set ?_ a4.out | refine below_set ?_ a5.out) | exact HB.out)) hb)
                    clear aa
                    clear a9
                    clear a0
                    clear a2
                    clear HB
                    have aa := n0_
                    have a9 := n1_
                    have a8 := n2_
                    have a0 := n3_
                    have a2 := n4_
                    have HB := n5_
                    clear n0_ n1_ n2_ n3_ n4_ n5_
                    clear hb au
                    refine hK.out _ _ ⟨(blk_cell a0.out 0).trans rfl, (blk_cell a0.out 1).trans rfl, (blk_cell a0.out 2).trans rfl, (blk_cell a0.out 3).trans rfl, (blk_cell a0.out 4).trans rfl, (blk_cell a0.out 5).trans rfl⟩ (fun hHeld => ?_)
                    clear hK K
                    refine norm_ (a' := ?_) ?_ ?_
                    rotate_left
                    ·show Act.put _ (some 16) _ = _
                     simp only [Act.put, sA0, sA1, sA2, i64_w, i32_w]
                     rfl
                    exact norm_ (by first | (simp only [putAll, Act.put, sA0, sA1, sA2]; done) | (simp only [putAll, Act.put, sA0, sA1, sA2]; rfl)) (br (ae, ad, ac) _ ⟨hHeld, (by (with_reducible repeat (first | apply kA0 | apply kA1 | apply kA2)); exact aa.out), (by (with_reducible repeat (first | apply kA0 | apply kA1 | apply kA2)); exact a9.out), (by (with_reducible repeat (first | apply kA0 | apply kA1 | apply kA2)); exact Kd.R_mono a8.out (fun _ hk => ⟨hk.1.2, hk.2⟩)), (by (with_reducible repeat (first | refine kA6 ?_ _ | refine kA8 ?_ | refine kA7 ?_ _)); exact a0.out), (by (with_reducible repeat (first | refine kA6 ?_ _ | refine kA8 ?_ | refine kA7 ?_ _)); exact a2.out), (by repeat (first | (with_reducible first | exact HB.out | apply kA5 | apply kA3 | apply kA4 | refine below_set ?_ a4.out | refine below_set ?_ a5.out) | exact HB.out))⟩)
                 ·skip
                  rintro ⟨ag, ah, ac⟩ w12 ⟨hS_, h0_, h1_, h2_, h3_, h4_, h5_⟩
                  have n0_ : Aside0 (Kd.R Kd.string 9 w12 w.heap.size (fun _ => True) ag aj) := ⟨h0_⟩
                  have n1_ : Aside0 (Kd.R k135 135 w12 w.heap.size (fun _ => True) ah ak) := ⟨h1_⟩
                  have n2_ : Aside0 (Kd.R (Kd.int .i64) 3 w12 w.heap.size (fun _ => True) ac am) := ⟨h2_⟩
                  have n3_ : Aside0 (w12.heap[a1]? = some (.cells #[.slice A0_0 l0_0.length c0_0, .slice A0_1 l0_1.length c0_1, .int .i64 a0_2, .slice A0_3 l0_3.length c0_3, .slice A0_4 l0_4.length c0_4, .slice A0_5 l0_5.length c0_5] 34 (0, 0))) := ⟨h3_⟩
                  have n4_ : Aside0 (w12.heap[a3]? = some (.cells #[.slice none 0 0, .slice none 0 0, .int .i64 0, .slice none 0 0, .slice none 0 0, .slice none 0 0] 34 (0, 0))) := ⟨h4_⟩
                  have n5_ : Aside0 (Below w.heap.size w w12) := ⟨h5_⟩
                  clear a0
                  clear a2
                  clear HB
                  clear h0_ h1_ h2_ h3_ h4_ h5_
                  have a6 := n0_
                  have a7 := n1_
                  have a8 := n2_
                  have a0 := n3_
                  have a2 := n4_
                  have HB := n5_
                  clear n0_ n1_ n2_ n3_ n4_ n5_
                  have hHeld : w12.cell? ⟨a1, 0, none⟩ = some (.slice A0_0 l0_0.length c0_0) ∧ w12.cell? ⟨a1, 1, none⟩ = some (.slice A0_1 l0_1.length c0_1) ∧ w12.cell? ⟨a1, 2, none⟩ = some (.int .i64 a0_2) ∧ w12.cell? ⟨a1, 3, none⟩ = some (.slice A0_3 l0_3.length c0_3) ∧ w12.cell? ⟨a1, 4, none⟩ = some (.slice A0_4 l0_4.length c0_4) ∧ w12.cell? ⟨a1, 5, none⟩ = some (.slice A0_5 l0_5.length c0_5) := hS_
                  refine norm_ (a' := ?_) ?_ ?_
                  rotate_left
                  ·simp only [putAll, Act.put, sA0, sA1, sA2]
                   rfl
                  refine two_ (i := 5) (j := 9) (Ni := some 8) (Nj := some 12) #[true, true, true, true, true, true, true, true, false, false, true, true, false, true, true, true, false, false, false] #[true, true, true, true, true, false, true, true, false, true, true, true, false, true, true, true, false, false, false] rfl rfl rfl rfl (two_of HT_.out (by kernel_rfl)) (by decide) (by decide) (fun K hK => ?_) (fun K hK => ?_)
                  ·skip
                   refine Kd.R_lit_step (Kd.int .i64) _ 3 ?hg (N := 8) ?hd (xs := ([] : List Int)) (inner := []) (ok := fun _ => True) (okp := fun _ => True) ?hr ?hp (fun _ hk => hk) trivial (Below.refl _ _) (Nat.le_refl _) (by simp) ?_; (case hd => rfl); (case hg => rfl); (case hr => first | (go_simp; done) | (go_simp; rfl)); (case hp => exact (Reps.none _ _))
                   intro ae w13 ap hb hg_ hnew_
                   clear hg_ hnew_
                   (first | rw [← b1.out] at ap | (simp only [Int.reduceToNat] at ap; rw [← b1.out] at ap))
                   have n0_ := kA9 (Kd.R_below (by (with_reducible repeat (first | apply kA0 | apply kA1 | apply kA2)); exact a6.out) hb)
                   have n1_ := kA9 (Kd.R_below (by (with_reducible repeat (first | apply kA0 | apply kA1 | apply kA2)); exact a7.out) hb)
                   have n2_ := kA9 (Kd.R_elder' (by (with_reducible repeat (first | apply kA0 | apply kA1 | apply kA2)); exact a8.out) (Kd.R_base ap) hb)
                   have n3_ := kA9 (Kd.R_lower (Kd.R_new' ap (Kd.R_lt (by (with_reducible repeat (first | apply kA0 | apply kA1 | apply kA2)); exact a8.out))) (below_size (by repeat (first | (with_reducible first | exact HB.out | apply kA5 | apply kA3 | apply kA4 | refine below_set ?_ a4.out | refine below_set ?_ a5.out) | exact HB.out))))
                   have n4_ := kA9 (blk_below (g := a1) (o := .cells #[.slice A0_0 l0_0.length c0_0, .slice A0_1 l0_1.length c0_1, .int .i64 a0_2, .slice A0_3 l0_3.length c0_3, .slice A0_4 l0_4.length c0_4, .slice A0_5 l0_5.length c0_5] 34 (0, 0)) (by (with_reducible repeat (first | refine kA6 ?_ _ | refine kA8 ?_ | refine kA7 ?_ _)); exact a0.out) hb)
                   have n5_ := kA9 (blk_below (g := a3) (o := .cells #[.slice none 0 0, .slice none 0 0, .int .i64 0, .slice none 0 0, .slice none 0 0, .slice none 0 0] 34 (0, 0)) (by (with_reducible repeat (first | refine kA6 ?_ _ | refine kA8 ?_ | refine kA7 ?_ _)); exact a2.out) hb)
                   have n6_ := kA9 (below_step (by repeat (first | (with_reducible first | exact HB.out | apply kA5 | apply kA3 | apply kA4 | refine below_set ?_ a4.out | refine below_set ?_ a5.out) | exact HB.out)) hb)
                   clear a6
                   clear a7
                   clear a8
                   clear a0
                   clear a2
                   clear HB
                   have a6 := n0_
                   have a7 := n1_
                   have a8 := n2_
                   have aa := n3_
                   have a0 := n4_
                   have a2 := n5_
                   have HB := n6_
                   clear n0_ n1_ n2_ n3_ n4_ n5_ n6_
                   clear hb ap
                   refine hK.out _ _ ⟨(blk_cell a0.out 0).trans rfl, (blk_cell a0.out 1).trans rfl, (blk_cell a0.out 2).trans rfl, (blk_cell a0.out 3).trans rfl, (blk_cell a0.out 4).trans rfl, (blk_cell a0.out 5).trans rfl⟩ (fun hHeld => ?_)
                   clear hK K
                   refine norm_ (a' := ?_) ?_ ?_
                   rotate_left
                   ·show Act.put _ (some 8) _ = _
                    simp only [Act.put, sA0, sA1, sA2, i64_w, i32_w]
                    rfl
                   exact norm_ (by first | (simp only [putAll, Act.put, sA0, sA1, sA2]; done) | (simp only [putAll, Act.put, sA0, sA1, sA2]; rfl)) (bp (ag, ah, ae, ac) _ ⟨hHeld, (by (with_reducible repeat (first | apply kA0 | apply kA1 | apply kA2)); exact a6.out), (by (with_reducible repeat (first | apply kA0 | apply kA1 | apply kA2)); exact a7.out), (by (with_reducible repeat (first | apply kA0 | apply kA1 | apply kA2)); exact Kd.R_mono aa.out (fun _ hk => hk.2)), (by (with_reducible repeat (first | apply kA0 | apply kA1 | apply kA2)); exact Kd.R_mono a8.out (fun _ hk => hk.2)), (by (with_reducible repeat (first | refine kA6 ?_ _ | refine kA8 ?_ | refine kA7 ?_ _)); exact a0.out), (by (with_reducible repeat (first | refine kA6 ?_ _ | refine kA8 ?_ | refine kA7 ?_ _)); exact a2.out), (by repeat (first | (with_reducible first | exact HB.out | apply kA5 | apply kA3 | apply kA4 | refine below_set ?_ a4.out | refine below_set ?_ a5.out) | exact HB.out))⟩)
                  ·skip
                   refine Kd.R_lit_step (Kd.int .i64) _ 3 ?hg (N := 12) ?hd (xs := ([] : List Int)) (inner := []) (ok := fun _ => True) (okp := fun _ => True) ?hr ?hp (fun _ hk => hk) trivial (Below.refl _ _) (Nat.le_refl _) (by simp) ?_; (case hd => rfl); (case hg => rfl); (case hr => first | (go_simp; done) | (go_simp; rfl)); (case hp => exact (Reps.none _ _))
                   intro ad w13 ap hb hg_ hnew_
                   clear hg_ hnew_
                   (first | rw [← ay.out] at ap | (simp only [Int.reduceToNat] at ap; rw [← ay.out] at ap))
                   have n0_ := kA9 (Kd.R_below (by (with_reducible repeat (first | apply kA0 | apply kA1 | apply kA2)); exact a6.out) hb)
                   have n1_ := kA9 (Kd.R_below (by (with_reducible repeat (first | apply kA0 | apply kA1 | apply kA2)); exact a7.out) hb)
                   have n2_ := kA9 (Kd.R_elder' (by (with_reducible repeat (first | apply kA0 | apply kA1 | apply kA2)); exact a8.out) (Kd.R_base ap) hb)
                   have n3_ := kA9 (Kd.R_lower (Kd.R_new' ap (Kd.R_lt (by (with_reducible repeat (first | apply kA0 | apply kA1 | apply kA2)); exact a8.out))) (below_size (by repeat (first | (with_reducible first | exact HB.out | apply kA5 | apply kA3 | apply kA4 | refine below_set ?_ a4.out | refine below_set ?_ a5.out) | exact HB.out))))
                   have n4_ := kA9 (blk_below (g := a1) (o := .cells #[.slice A0_0 l0_0.length c0_0, .slice A0_1 l0_1.length c0_1, .int .i64 a0_2, .slice A0_3 l0_3.length c0_3, .slice A0_4 l0_4.length c0_4, .slice A0_5 l0_5.length c0_5] 34 (0, 0)) (by (with_reducible repeat (first | refine kA6 ?_ _ | refine kA8 ?_ | refine kA7 ?_ _)); exact a0.out) hb)
                   have n5_ := kA9 (blk_below (g := a3) (o := .cells #[.slice none 0 0, .slice none 0 0, .int .i64 0, .slice none 0 0, .slice none 0 0, .slice none 0 0] 34 (0, 0)) (by (with_reducible repeat (first | refine kA6 ?_ _ | refine kA8 ?_ | refine kA7 ?_ _)); exact a2.out) hb)
                   have n6_ := kA9 (below_step (by repeat (first | (with_reducible first | exact HB.out | apply kA5 | apply kA3 | apply kA4 | refine below_set ?_ a4.out | refine below_set ?_ a5.out) | exact HB.out)) hb)
                   clear a6
                   clear a7
                   clear a8
                   clear a0
                   clear a2
                   clear HB
                   have a6 := n0_
                   have a7 := n1_
                   have a8 := n2_
                   have a9 := n3_
                   have a0 := n4_
                   have a2 := n5_
                   have HB := n6_
                   clear n0_ n1_ n2_ n3_ n4_ n5_ n6_
                   clear hb ap
                   refine hK.out _ _ ⟨(blk_cell a0.out 0).trans rfl, (blk_cell a0.out 1).trans rfl, (blk_cell a0.out 2).trans rfl, (blk_cell a0.out 3).trans rfl, (blk_cell a0.out 4).trans rfl, (blk_cell a0.out 5).trans rfl⟩ (fun hHeld => ?_)
                   clear hK K
                   refine norm_ (a' := ?_) ?_ ?_
                   rotate_left
                   ·show Act.put _ (some 12) _ = _
                    simp only [Act.put, sA0, sA1, sA2, i64_w, i32_w]
                    rfl
                   exact norm_ (by first | (simp only [putAll, Act.put, sA0, sA1, sA2]; done) | (simp only [putAll, Act.put, sA0, sA1, sA2]; rfl)) (bq (ag, ah, ad, ac) _ ⟨hHeld, (by (with_reducible repeat (first | apply kA0 | apply kA1 | apply kA2)); exact a6.out), (by (with_reducible repeat (first | apply kA0 | apply kA1 | apply kA2)); exact a7.out), (by (with_reducible repeat (first | apply kA0 | apply kA1 | apply kA2)); exact Kd.R_mono a9.out (fun _ hk => hk.2)), (by (with_reducible repeat (first | apply kA0 | apply kA1 | apply kA2)); exact Kd.R_mono a8.out (fun _ hk => hk.2)), (by (with_reducible repeat (first | refine kA6 ?_ _ | refine kA8 ?_ | refine kA7 ?_ _)); exact a0.out), (by (with_reducible repeat (first | refine kA6 ?_ _ | refine kA8 ?_ | refine kA7 ?_ _)); exact a2.out), (by repeat (first | (with_reducible first | exact HB.out | apply kA5 | apply kA3 | apply kA4 | refine below_set ?_ a4.out | refine below_set ?_ a5.out) | exact HB.out))⟩)
                ·skip
                 rintro ⟨ag, ah, ad⟩ w12 ⟨hS_, h0_, h1_, h2_, h3_, h4_, h5_⟩
                 have n0_ : Aside0 (Kd.R Kd.string 9 w12 w.heap.size (fun _ => True) ag aj) := ⟨h0_⟩
                 have n1_ : Aside0 (Kd.R k135 135 w12 w.heap.size (fun _ => True) ah ak) := ⟨h1_⟩
                 have n2_ : Aside0 (Kd.R (Kd.int .i64) 3 w12 w.heap.size (fun _ => True) ad aq) := ⟨h2_⟩
                 have n3_ : Aside0 (w12.heap[a1]? = some (.cells #[.slice A0_0 l0_0.length c0_0, .slice A0_1 l0_1.length c0_1, .int .i64 a0_2, .slice A0_3 l0_3.length c0_3, .slice A0_4 l0_4.length c0_4, .slice A0_5 l0_5.length c0_5] 34 (0, 0))) := ⟨h3_⟩
                 have n4_ : Aside0 (w12.heap[a3]? = some (.cells #[.slice none 0 0, .slice none 0 0, .int .i64 0, .slice none 0 0, .slice none 0 0, .slice none 0 0] 34 (0, 0))) := ⟨h4_⟩
                 have n5_ : Aside0 (Below w.heap.size w w12) := ⟨h5_⟩
                 clear a0
                 clear a2
                 clear HB
                 clear h0_ h1_ h2_ h3_ h4_ h5_
                 have a6 := n0_
                 have a7 := n1_
                 have a9 := n2_
                 have a0 := n3_
                 have a2 := n4_
                 have HB := n5_
                 clear n0_ n1_ n2_ n3_ n4_ n5_
                 have hHeld : w12.cell? ⟨a1, 0, none⟩ = some (.slice A0_0 l0_0.length c0_0) ∧ w12.cell? ⟨a1, 1, none⟩ = some (.slice A0_1 l0_1.length c0_1) ∧ w12.cell? ⟨a1, 2, none⟩ = some (.int .i64 a0_2) ∧ w12.cell? ⟨a1, 3, none⟩ = some (.slice A0_3 l0_3.length c0_3) ∧ w12.cell? ⟨a1, 4, none⟩ = some (.slice A0_4 l0_4.length c0_4) ∧ w12.cell? ⟨a1, 5, none⟩ = some (.slice A0_5 l0_5.length c0_5) := hS_
                 refine norm_ (a' := ?_) ?_ ?_
                 rotate_left
                 ·simp only [putAll, Act.put, sA0, sA1, sA2]
                  rfl
                 refine two_ (i := 5) (j := 13) (Ni := some 8) (Nj := some 16) #[true, true, true, true, true, true, true, true, false, true, true, true, false, false, true, true, false, false, false] #[true, true, true, true, true, false, true, true, false, true, true, true, false, true, true, true, false, false, false] rfl rfl rfl rfl (two_of HT_.out (by kernel_rfl)) (by decide) (by decide) (fun K hK => ?_) (fun K hK => ?_)
                 ·skip
                  refine Kd.R_lit_step (Kd.int .i64) _ 3 ?hg (N := 8) ?hd (xs := ([] : List Int)) (inner := []) (ok := fun _ => True) (okp := fun _ => True) ?hr ?hp (fun _ hk => hk) trivial (Below.refl _ _) (Nat.le_refl _) (by simp) ?_; (case hd => rfl); (case hg => rfl); (case hr => first | (go_simp; done) | (go_simp; rfl)); (case hp => exact (Reps.none _ _))
                  intro ae w13 ap hb hg_ hnew_
                  clear hg_ hnew_
                  (first | rw [← b1.out] at ap | (simp only [Int.reduceToNat] at ap; rw [← b1.out] at ap))
                  have n0_ := kA9 (Kd.R_below (by (with_reducible repeat (first | apply kA0 | apply kA1 | apply kA2)); exact a6.out) hb)
                  have n1_ := kA9 (Kd.R_below (by (with_reducible repeat (first | apply kA0 | apply kA1 | apply kA2)); exact a7.out) hb)
                  have n2_ := kA9 (Kd.R_elder' (by (with_reducible repeat (first | apply kA0 | apply kA1 | apply kA2)); exact a9.out) (Kd.R_base ap) hb)
                  have n3_ := kA9 (Kd.R_lower (Kd.R_new' ap (Kd.R_lt (by (with_reducible repeat (first | apply kA0 | apply kA1 | apply kA2)); exact a9.out))) (below_size (by repeat (first | (with_reducible first | exact HB.out | apply kA5 | apply kA3 | apply kA4 | refine below_set ?_ a4.out | refine below_set ?_ a5.out) | exact HB.out))))
                  have n4_ := kA9 (blk_below (g := a1) (o := .cells #[.slice A0_0 l0_0.length c0_0, .slice A0_1 l0_1.length c0_1, .int .i64 a0_2, .slice A0_3 l0_3.length c0_3, .slice A0_4 l0_4.length c0_4, .slice A0_5 l0_5.length c0_5] 34 (0, 0)) (by (with_reducible repeat (first | refine kA6 ?_ _ | refine kA8 ?_ | refine kA7 ?_ _)); exact a0.out) hb)
                  have n5_ := kA9 (blk_below (g := a3) (o := .cells #[.slice none 0 0, .slice none 0 0, .int .i64 0, .slice none 0 0, .slice none 0 0, .slice none 0 0] 34 (0, 0)) (by (with_reducible repeat (first | refine kA6 ?_ _ | refine kA8 ?_ | refine kA7 ?_ _)); exact a2.out) hb)
                  have n6_ := kA9 (below_step (by repeat (first | (with_reducible first | exact HB.out | apply kA5 | apply kA3 | apply kA4 | refine below_set ?_ a4.out | refine below_set ?_ a5.out) | exact HB.out)) hb)
                  clear a6
                  clear a7
                  clear a9
                  clear a0
                  clear a2
                  clear HB
                  have a6 := n0_
                  have a7 := n1_
                  have a9 := n2_
                  have aa := n3_
                  have a0 := n4_
                  have a2 := n5_
                  have HB := n6_
                  clear n0_ n1_ n2_ n3_ n4_ n5_ n6_
                  clear hb ap
                  refine hK.out _ _ ⟨(blk_cell a0.out 0).trans rfl, (blk_cell a0.out 1).trans rfl, (blk_cell a0.out 2).trans rfl, (blk_cell a0.out 3).trans rfl, (blk_cell a0.out 4).trans rfl, (blk_cell a0.out 5).trans rfl⟩ (fun hHeld => ?_)
                  clear hK K
                  refine norm_ (a' := ?_) ?_ ?_
                  rotate_left
                  ·show Act.put _ (some 8) _ = _
                   simp only [Act.put, sA0, sA1, sA2, i64_w, i32_w]
                   rfl
                  exact norm_ (by first | (simp only [putAll, Act.put, sA0, sA1, sA2]; done) | (simp only [putAll, Act.put, sA0, sA1, sA2]; rfl)) (c6 (ag, ah, ae, ad) _ ⟨hHeld, (by (with_reducible repeat (first | apply kA0 | apply kA1 | apply kA2)); exact a6.out), (by (with_reducible repeat (first | apply kA0 | apply kA1 | apply kA2)); exact a7.out), (by (with_reducible repeat (first | apply kA0 | apply kA1 | apply kA2)); exact Kd.R_mono aa.out (fun _ hk => hk.2)), (by (with_reducible repeat (first | apply kA0 | apply kA1 | apply kA2)); exact Kd.R_mono a9.out (fun _ hk => hk.2)), (by (with_reducible repeat (first | refine kA6 ?_ _ | refine kA8 ?_ | refine kA7 ?_ _)); exact a0.out), (by (with_reducible repeat (first | refine kA6 ?_ _ | refine kA8 ?_ | refine kA7 ?_ _)); exact a2.out), (by repeat (first | (with_reducible first | exact HB.out | apply kA5 | apply kA3 | apply kA4 | refine below_set ?_ a4.out | refine below_set ?_ a5.out) | exact HB.out))⟩)
                 ·skip
                  refine Kd.R_lit_step (Kd.int .i64) _ 3 ?hg (N := 16) ?hd (xs := ([] : List Int)) (inner := []) (ok := fun _ => True) (okp := fun _ => True) ?hr ?hp (fun _ hk => hk) trivial (Below.refl _ _) (Nat.le_refl _) (by simp) ?_; (case hd => rfl); (case hg => rfl); (case hr => first | (go_simp; done) | (go_simp; rfl)); (case hp => exact (Reps.none _ _))
                  intro ac w13 ap hb hg_ hnew_
                  clear hg_ hnew_
                  (first | rw [← ax.out] at ap | (simp only [Int.reduceToNat] at ap; rw [← ax.out] at ap))
                  have n0_ := kA9 (Kd.R_below (by (with_reducible repeat (first | apply kA0 | apply kA1 | apply kA2)); exact a6.out) hb)
                  have n1_ := kA9 (Kd.R_below (by (with_reducible repeat (first | apply kA0 | apply kA1 | apply kA2)); exact a7.out) hb)
                  have n2_ := kA9 (Kd.R_elder' (by (with_reducible repeat (first | apply kA0 | apply kA1 | apply kA2)); exact a9.out) (Kd.R_base ap) hb)
                  have n3_ := kA9 (Kd.R_lower (Kd.R_new' ap (Kd.R_lt (by (with_reducible repeat (first | apply kA0 | apply kA1 | apply kA2)); exact a9.out))) (below_size (by repeat (first | (with_reducible first | exact HB.out | apply kA5 | apply kA3 | apply kA4 | refine below_set ?_ a4.out | refine below_set ?_ a5.out) | exact HB.out))))
                  have n4_ := kA9 (blk_below (g := a1) (o := .cells #[.slice A0_0 l0_0.length c0_0, .slice A0_1 l0_1.length c0_1, .int .i64 a0_2, .slice A0_3 l0_3.length c0_3, .slice A0_4 l0_4.length c0_4, .slice A0_5 l0_5.length c0_5] 34 (0, 0)) (by (with_reducible repeat (first | refine kA6 ?_ _ | refine kA8 ?_ | refine kA7 ?_ _)); exact a0.out) hb)
                  have n5_ := kA9 (blk_below (g := a3) (o := .cells #[.slice none 0 0, .slice none 0 0, .int .i64 0, .slice none 0 0, .slice none 0 0, .slice none 0 0] 34 (0, 0)) (by (with_reducible repeat (first | refine kA6 ?_ _ | refine kA8 ?_ | refine kA7 ?_ _)); exact a2.out) hb)
                  have n6_ := kA9 (below_step (by repeat (first | (with_reducible first | exact HB.out | apply kA5 | apply kA3 | apply kA4 | refine below_set ?_ a4.out | refine below_set ?_ a5.out) | exact HB.out)) hb)
                  clear a6
                  clear a7
                  clear a9
                  clear a0
                  clear a2
                  clear HB
                  have a6 := n0_
                  have a7 := n1_
                  have a9 := n2_
                  have a8 := n3_
                  have a0 := n4_
                  have a2 := n5_
                  have HB := n6_
                  clear n0_ n1_ n2_ n3_ n4_ n5_ n6_
                  clear hb ap
                  refine hK.out _ _ ⟨(blk_cell a0.out 0).trans rfl, (blk_cell a0.out 1).trans rfl, (blk_cell a0.out 2).trans rfl, (blk_cell a0.out 3).trans rfl, (blk_cell a0.out 4).trans rfl, (blk_cell a0.out 5).trans rfl⟩ (fun hHeld => ?_)
                  clear hK K
                  refine norm_ (a' := ?_) ?_ ?_
                  rotate_left
                  ·show Act.put _ (some 16) _ = _
                   simp only [Act.put, sA0, sA1, sA2, i64_w, i32_w]
                   rfl
                  exact norm_ (by first | (simp only [putAll, Act.put, sA0, sA1, sA2]; done) | (simp only [putAll, Act.put, sA0, sA1, sA2]; rfl)) (bq (ag, ah, ad, ac) _ ⟨hHeld, (by (with_reducible repeat (first | apply kA0 | apply kA1 | apply kA2)); exact a6.out), (by (with_reducible repeat (first | apply kA0 | apply kA1 | apply kA2)); exact a7.out), (by (with_reducible repeat (first | apply kA0 | apply kA1 | apply kA2)); exact Kd.R_mono a9.out (fun _ hk => hk.2)), (by (with_reducible repeat (first | apply kA0 | apply kA1 | apply kA2)); exact Kd.R_mono a8.out (fun _ hk => hk.2)), (by (with_reducible repeat (first | refine kA6 ?_ _ | refine kA8 ?_ | refine kA7 ?_ _)); exact a0.out), (by (with_reducible repeat (first | refine kA6 ?_ _ | refine kA8 ?_ | refine kA7 ?_ _)); exact a2.out), (by repeat (first | (with_reducible first | exact HB.out | apply kA5 | apply kA3 | apply kA4 | refine below_set ?_ a4.out | refine below_set ?_ a5.out) | exact HB.out))⟩)
               ·skip
                rintro ⟨ag, ah, ae⟩ w12 ⟨hS_, h0_, h1_, h2_, h3_, h4_, h5_⟩
                have n0_ : Aside0 (Kd.R Kd.string 9 w12 w.heap.size (fun _ => True) ag aj) := ⟨h0_⟩
                have n1_ : Aside0 (Kd.R k135 135 w12 w.heap.size (fun _ => True) ah ak) := ⟨h1_⟩
                have n2_ : Aside0 (Kd.R (Kd.int .i64) 3 w12 w.heap.size (fun _ => True) ae av) := ⟨h2_⟩
                have n3_ : Aside0 (w12.heap[a1]? = some (.cells #[.slice A0_0 l0_0.length c0_0, .slice A0_1 l0_1.length c0_1, .int .i64 a0_2, .slice A0_3 l0_3.length c0_3, .slice A0_4 l0_4.length c0_4, .slice A0_5 l0_5.length c0_5] 34 (0, 0))) := ⟨h3_⟩
                have n4_ : Aside0 (w12.heap[a3]? = some (.cells #[.slice none 0 0, .slice none 0 0, .int .i64 0, .slice none 0 0, .slice none 0 0, .slice none 0 0] 34 (0, 0))) := ⟨h4_⟩
                have n5_ : Aside0 (Below w.heap.size w w12) := ⟨h5_⟩
                clear a0
                clear a2
                clear HB
                clear h0_ h1_ h2_ h3_ h4_ h5_
                have a6 := n0_
                have a7 := n1_
                have aa := n2_
                have a0 := n3_
                have a2 := n4_
                have HB := n5_
                clear n0_ n1_ n2_ n3_ n4_ n5_
                have hHeld : w12.cell? ⟨a1, 0, none⟩ = some (.slice A0_0 l0_0.length c0_0) ∧ w12.cell? ⟨a1, 1, none⟩ = some (.slice A0_1 l0_1.length c0_1) ∧ w12.cell? ⟨a1, 2, none⟩ = some (.int .i64 a0_2) ∧ w12.cell? ⟨a1, 3, none⟩ = some (.slice A0_3 l0_3.length c0_3) ∧ w12.cell? ⟨a1, 4, none⟩ = some (.slice A0_4 l0_4.length c0_4) ∧ w12.cell? ⟨a1, 5, none⟩ = some (.slice A0_5 l0_5.length c0_5) := hS_
                refine norm_ (a' := ?_) ?_ ?_
                rotate_left
                ·simp only [putAll, Act.put, sA0, sA1, sA2]
                 rfl
                refine three_ (i := 8) (j := 9) (k := 13) (Ni := some 11) (Nj := some 12) (Nk := some 16) #[true, true, true, true, true, true, true, true, true, false, true, true, false, false, true, true, false, false, false] #[true, true, true, true, true, true, true, true, false, true, true, true, false, false, true, true, false, false, false] #[true, true, true, true, true, true, true, true, false, false, true, true, false, true, true, true, false, false, false] rfl rfl rfl rfl rfl rfl (three_of HT_.out (by kernel_rfl)) (by decide) (by decide) (by decide) (fun K hK => ?_) (fun K hK => ?_) (fun K hK => ?_)
                ·skip
                 refine Kd.R_append_rows_step (Kd.int .i64) (w0 := w) w.heap.size (by rfl) (.tmp 8) (.tmp 10) 26 3 (.int .i64 0) 8 rfl Try.underlying26 info3 rfl (by decide) (by omega) ae av l0_3 _ _ _ (fun _ => True) (fun _ => False) rfl rfl ?aO ?aR (fun _ _ h => h) (fun _ h => h.elim) ?aF ?aB ?aS ?aL ?_
                 (case aR => repeat (first | exact (Kd.C_below c9.out HB.out) | (with_reducible refine Kd.C_alloc ?_ _) | (with_reducible refine Kd.C_drewN ?_ _) | (with_reducible refine Kd.C_drew ?_)))
                 (case aB => exact (by repeat (first | (with_reducible first | exact HB.out | apply kA5 | apply kA3 | apply kA4 | refine below_set ?_ a4.out | refine below_set ?_ a5.out) | exact HB.out)))
                 (case aF => exact (fun _ _ => trivial))
                 (case aO => exact (by (with_reducible repeat (first | apply kA0 | apply kA1 | apply kA2)); exact aa.out))
                 (case aS => exact (below_size (by repeat (first | (with_reducible first | exact HB.out | apply kA5 | apply kA3 | apply kA4 | refine below_set ?_ a4.out | refine below_set ?_ a5.out) | exact HB.out))))
                 (case aL => have := cb.out; omega)
                 intro ar w13 ho hb hg hat
                 rw [← ca.out] at ho
                 have n0_ := kA9 (blk_grown (g := a1) (o := .cells #[.slice A0_0 l0_0.length c0_0, .slice A0_1 l0_1.length c0_1, .int .i64 a0_2, .slice A0_3 l0_3.length c0_3, .slice A0_4 l0_4.length c0_4, .slice A0_5 l0_5.length c0_5] 34 (0, 0)) (by (with_reducible repeat (first | refine kA6 ?_ _ | refine kA8 ?_ | refine kA7 ?_ _)); exact a0.out) hg (Kd.R_ne aa.out a0.out (by decide)))
                 have n1_ := kA9 (blk_grown (g := a3) (o := .cells #[.slice none 0 0, .slice none 0 0, .int .i64 0, .slice none 0 0, .slice none 0 0, .slice none 0 0] 34 (0, 0)) (by (with_reducible repeat (first | refine kA6 ?_ _ | refine kA8 ?_ | refine kA7 ?_ _)); exact a2.out) hg (Kd.R_ne aa.out a2.out (by decide)))
                 have n2_ := kA9 (Kd.R_over' (by (with_reducible repeat (first | apply kA0 | apply kA1 | apply kA2)); exact a6.out) (Kd.R_typed (by (with_reducible repeat (first | apply kA0 | apply kA1 | apply kA2)); exact aa.out)) (by decide) hg)
                 have n3_ := kA9 (Kd.R_over' (by (with_reducible repeat (first | apply kA0 | apply kA1 | apply kA2)); exact a7.out) (Kd.R_typed (by (with_reducible repeat (first | apply kA0 | apply kA1 | apply kA2)); exact aa.out)) (by decide) hg)
                 have n4_ := kA9 (hb)
                 have n5_ := kA9 (ho)
                 clear a0
                 clear a2
                 clear a6
                 clear a7
                 clear HB
                 clear aa
                 have a0 := n0_
                 have a2 := n1_
                 have a6 := n2_
                 have a7 := n3_
                 have HB := n4_
                 have af := n5_
                 clear n0_ n1_ n2_ n3_ n4_ n5_
                 clear ho hb hg hat
                 refine hK.out _ _ ⟨(blk_cell a0.out 0).trans rfl, (blk_cell a0.out 1).trans rfl, (blk_cell a0.out 2).trans rfl, (blk_cell a0.out 3).trans rfl, (blk_cell a0.out 4).trans rfl, (blk_cell a0.out 5).trans rfl⟩ (fun hHeld => ?_)
                 clear hK K
                 refine norm_ (a' := ?_) ?_ ?_
                 rotate_left
                 ·show Act.put _ (some 11) _ = _
                  simp only [Act.put, sA0, sA1, sA2, i64_w, i32_w]
                  rfl
                 exact norm_ (by first | (simp only [putAll, Act.put, sA0, sA1, sA2]; done) | (simp only [putAll, Act.put, sA0, sA1, sA2]; rfl)) (hJ2_5_8 (ag, ah, ae, ar) _ ⟨hHeld, (by (with_reducible repeat (first | apply kA0 | apply kA1 | apply kA2)); exact a6.out), (by (with_reducible repeat (first | apply kA0 | apply kA1 | apply kA2)); exact a7.out), (by (with_reducible repeat (first | apply kA0 | apply kA1 | apply kA2)); exact af.out), (by (with_reducible repeat (first | refine kA6 ?_ _ | refine kA8 ?_ | refine kA7 ?_ _)); exact a0.out), (by (with_reducible repeat (first | refine kA6 ?_ _ | refine kA8 ?_ | refine kA7 ?_ _)); exact a2.out), (by repeat (first | (with_reducible first | exact HB.out | apply kA5 | apply kA3 | apply kA4 | refine below_set ?_ a4.out | refine below_set ?_ a5.out) | exact HB.out))⟩)
                ·skip
                 refine Kd.R_lit_step (Kd.int .i64) _ 3 ?hg (N := 12) ?hd (xs := ([] : List Int)) (inner := []) (ok := fun _ => True) (okp := fun _ => True) ?hr ?hp (fun _ hk => hk) trivial (Below.refl _ _) (Nat.le_refl _) (by simp) ?_; (case hd => rfl); (case hg => rfl); (case hr => first | (go_simp; done) | (go_simp; rfl)); (case hp => exact (Reps.none _ _))
                 intro ad w13 ap hb hg_ hnew_
                 clear hg_ hnew_
                 (first | rw [← ay.out] at ap | (simp only [Int.reduceToNat] at ap; rw [← ay.out] at ap))
                 have n0_ := kA9 (Kd.R_below (by (with_reducible repeat (first | apply kA0 | apply kA1 | apply kA2)); exact a6.out) hb)
                 have n1_ := kA9 (Kd.R_below (by (with_reducible repeat (first | apply kA0 | apply kA1 | apply kA2)); exact a7.out) hb)
                 have n2_ := kA9 (Kd.R_elder' (by (with_reducible repeat (first | apply kA0 | apply kA1 | apply kA2)); exact aa.out) (Kd.R_base ap) hb)
                 have n3_ := kA9 (Kd.R_lower (Kd.R_new' ap (Kd.R_lt (by (with_reducible repeat (first | apply kA0 | apply kA1 | apply kA2)); exact aa.out))) (below_size (by repeat (first | (with_reducible first | exact HB.out | apply kA5 | apply kA3 | apply kA4 | refine below_set ?_ a4.out | refine below_set ?_ a5.out) | exact HB.out))))
                 have n4_ := kA9 (blk_below (g := a1) (o := .cells #[.slice A0_0 l0_0.length c0_0, .slice A0_1 l0_1.length c0_1, .int .i64 a0_2, .slice A0_3 l0_3.length c0_3, .slice A0_4 l0_4.length c0_4, .slice A0_5 l0_5.length c0_5] 34 (0, 0)) (by (with_reducible repeat (first | refine kA6 ?_ _ | refine kA8 ?_ | refine kA7 ?_ _)); exact a0.out) hb)
                 have n5_ := kA9 (blk_below (g := a3) (o := .cells #[.slice none 0 0, .slice none 0 0, .int .i64 0, .slice none 0 0, .slice none 0 0, .slice none 0 0] 34 (0, 0)) (by (with_reducible repeat (first | refine kA6 ?_ _ | refine kA8 ?_ | refine kA7 ?_ _)); exact a2.out) hb)
                 have n6_ := kA9 (below_step (by repeat (first | (with_reducible first | exact HB.out | apply kA5 | apply kA3 | apply kA4 | refine below_set ?_ a4.out | refine below_set ?_ a5.out) | exact HB.out)) hb)
                 clear a6
                 clear a7
                 clear aa
                 clear a0
                 clear a2
                 clear HB
                 have a6 := n0_
                 have a7 := n1_
                 have aa := n2_
                 have a9 := n3_
                 have a0 := n4_
                 have a2 := n5_
                 have HB := n6_
                 clear n0_ n1_ n2_ n3_ n4_ n5_ n6_
                 clear hb ap
                 refine hK.out _ _ ⟨(blk_cell a0.out 0).trans rfl, (blk_cell a0.out 1).trans rfl, (blk_cell a0.out 2).trans rfl, (blk_cell a0.out 3).trans rfl, (blk_cell a0.out 4).trans rfl, (blk_cell a0.out 5).trans rfl⟩ (fun hHeld => ?_)
                 clear hK K
                 refine norm_ (a' := ?_) ?_ ?_
                 rotate_left
                 ·show Act.put _ (some 12) _ = _
                  simp only [Act.put, sA0, sA1, sA2, i64_w, i32_w]
                  rfl
                 exact norm_ (by first | (simp only [putAll, Act.put, sA0, sA1, sA2]; done) | (simp only [putAll, Act.put, sA0, sA1, sA2]; rfl)) (c6 (ag, ah, ae, ad) _ ⟨hHeld, (by (with_reducible repeat (first | apply kA0 | apply kA1 | apply kA2)); exact a6.out), (by (with_reducible repeat (first | apply kA0 | apply kA1 | apply kA2)); exact a7.out), (by (with_reducible repeat (first | apply kA0 | apply kA1 | apply kA2)); exact Kd.R_mono aa.out (fun _ hk => hk.2)), (by (with_reducible repeat (first | apply kA0 | apply kA1 | apply kA2)); exact Kd.R_mono a9.out (fun _ hk => hk.2)), (by (with_reducible repeat (first | refine kA6 ?_ _ | refine kA8 ?_ | refine kA7 ?_ _)); exact a0.out), (by (with_reducible repeat (first | refine kA6 ?_ _ | refine kA8 ?_ | refine kA7 ?_ _)); exact a2.out), (by repeat (first | (with_reducible first | exact HB.out | apply kA5 | apply kA3 | apply kA4 | refine below_set ?_ a4.out | refine below_set ?_ a5.out) | exact HB.out))⟩)
                ·skip
                 refine Kd.R_lit_step (Kd.int .i64) _ 3 ?hg (N := 16) ?hd (xs := ([] : List Int)) (inner := []) (ok := fun _ => True) (okp := fun _ => True) ?hr ?hp (fun _ hk => hk) trivial (Below.refl _ _) (Nat.le_refl _) (by simp) ?_; (case hd => rfl); (case hg => rfl); (case hr => first | (go_simp; done) | (go_simp; rfl)); (case hp => exact (Reps.none _ _))
                 intro ac w13 ap hb hg_ hnew_
                 clear hg_ hnew_
                 (first | rw [← ax.out] at ap | (simp only [Int.reduceToNat] at ap; rw [← ax.out] at ap))
                 have n0_ := kA9 (Kd.R_below (by (with_reducible repeat (first | apply kA0 | apply kA1 | apply kA2)); exact a6.out) hb)
                 have n1_ := kA9 (Kd.R_below (by (with_reducible repeat (first | apply kA0 | apply kA1 | apply kA2)); exact a7.out) hb)
                 have n2_ := kA9 (Kd.R_elder' (by (with_reducible repeat (first | apply kA0 | apply kA1 | apply kA2)); exact aa.out) (Kd.R_base ap) hb)
                 have n3_ := kA9 (Kd.R_lower (Kd.R_new' ap (Kd.R_lt (by (with_reducible repeat (first | apply kA0 | apply kA1 | apply kA2)); exact aa.out))) (below_size (by repeat (first | (with_reducible first | exact HB.out | apply kA5 | apply kA3 | apply kA4 | refine below_set ?_ a4.out | refine below_set ?_ a5.out) | exact HB.out))))
                 have n4_ := kA9 (blk_below (g := a1) (o := .cells #[.slice A0_0 l0_0.length c0_0, .slice A0_1 l0_1.length c0_1, .int .i64 a0_2, .slice A0_3 l0_3.length c0_3, .slice A0_4 l0_4.length c0_4, .slice A0_5 l0_5.length c0_5] 34 (0, 0)) (by (with_reducible repeat (first | refine kA6 ?_ _ | refine kA8 ?_ | refine kA7 ?_ _)); exact a0.out) hb)
                 have n5_ := kA9 (blk_below (g := a3) (o := .cells #[.slice none 0 0, .slice none 0 0, .int .i64 0, .slice none 0 0, .slice none 0 0, .slice none 0 0] 34 (0, 0)) (by (with_reducible repeat (first | refine kA6 ?_ _ | refine kA8 ?_ | refine kA7 ?_ _)); exact a2.out) hb)
                 have n6_ := kA9 (below_step (by repeat (first | (with_reducible first | exact HB.out | apply kA5 | apply kA3 | apply kA4 | refine below_set ?_ a4.out | refine below_set ?_ a5.out) | exact HB.out)) hb)
                 clear a6
                 clear a7
                 clear aa
                 clear a0
                 clear a2
                 clear HB
                 have a6 := n0_
                 have a7 := n1_
                 have aa := n2_
                 have a8 := n3_
                 have a0 := n4_
                 have a2 := n5_
                 have HB := n6_
                 clear n0_ n1_ n2_ n3_ n4_ n5_ n6_
                 clear hb ap
                 refine hK.out _ _ ⟨(blk_cell a0.out 0).trans rfl, (blk_cell a0.out 1).trans rfl, (blk_cell a0.out 2).trans rfl, (blk_cell a0.out 3).trans rfl, (blk_cell a0.out 4).trans rfl, (blk_cell a0.out 5).trans rfl⟩ (fun hHeld => ?_)
                 clear hK K
                 refine norm_ (a' := ?_) ?_ ?_
                 rotate_left
                 ·show Act.put _ (some 16) _ = _
                  simp only [Act.put, sA0, sA1, sA2, i64_w, i32_w]
                  rfl
                 exact norm_ (by first | (simp only [putAll, Act.put, sA0, sA1, sA2]; done) | (simp only [putAll, Act.put, sA0, sA1, sA2]; rfl)) (bp (ag, ah, ae, ac) _ ⟨hHeld, (by (with_reducible repeat (first | apply kA0 | apply kA1 | apply kA2)); exact a6.out), (by (with_reducible repeat (first | apply kA0 | apply kA1 | apply kA2)); exact a7.out), (by (with_reducible repeat (first | apply kA0 | apply kA1 | apply kA2)); exact Kd.R_mono aa.out (fun _ hk => hk.2)), (by (with_reducible repeat (first | apply kA0 | apply kA1 | apply kA2)); exact Kd.R_mono a8.out (fun _ hk => hk.2)), (by (with_reducible repeat (first | refine kA6 ?_ _ | refine kA8 ?_ | refine kA7 ?_ _)); exact a0.out), (by (with_reducible repeat (first | refine kA6 ?_ _ | refine kA8 ?_ | refine kA7 ?_ _)); exact a2.out), (by repeat (first | (with_reducible first | exact HB.out | apply kA5 | apply kA3 | apply kA4 | refine below_set ?_ a4.out | refine below_set ?_ a5.out) | exact HB.out))⟩)
              ·skip
               rintro ⟨ae, ad, ac⟩ w15 ⟨hS_, h0_, h1_, h2_, h3_, h4_, h5_⟩
               have n0_ : Aside0 (Kd.R (Kd.int .i64) 3 w15 w.heap.size (fun k_ => some k_ ≠ (ad : Value).ownBlock ∧ some k_ ≠ (ac : Value).ownBlock) ae av) := ⟨h0_⟩
               have n1_ : Aside0 (Kd.R (Kd.int .i64) 3 w15 w.heap.size (fun k_ => some k_ ≠ (ae : Value).ownBlock ∧ some k_ ≠ (ac : Value).ownBlock) ad aq) := ⟨h1_⟩
               have n2_ : Aside0 (Kd.R (Kd.int .i64) 3 w15 w.heap.size (fun k_ => some k_ ≠ (ae : Value).ownBlock ∧ some k_ ≠ (ad : Value).ownBlock) ac am) := ⟨h2_⟩
               have n3_ : Aside0 (w15.heap[a1]? = some (.cells #[.slice A0_0 l0_0.length c0_0, .slice A0_1 l0_1.length c0_1, .int .i64 a0_2, .slice A0_3 l0_3.length c0_3, .slice A0_4 l0_4.length c0_4, .slice A0_5 l0_5.length c0_5] 34 (0, 0))) := ⟨h3_⟩
               have n4_ : Aside0 (w15.heap[a3]? = some (.cells #[.slice none 0 0, .slice none 0 0, .int .i64 0, .slice none 0 0, .slice none 0 0, .slice none 0 0] 34 (0, 0))) := ⟨h4_⟩
               have n5_ : Aside0 (Below w.heap.size w w15) := ⟨h5_⟩
               clear a0
               clear a2
               clear HB
               clear h0_ h1_ h2_ h3_ h4_ h5_
               have aa := n0_
               have a9 := n1_
               have a8 := n2_
               have a0 := n3_
               have a2 := n4_
               have HB := n5_
               clear n0_ n1_ n2_ n3_ n4_ n5_
               have hHeld : w15.cell? ⟨a1, 0, none⟩ = some (.slice A0_0 l0_0.length c0_0) ∧ w15.cell? ⟨a1, 1, none⟩ = some (.slice A0_1 l0_1.length c0_1) ∧ w15.cell? ⟨a1, 2, none⟩ = some (.int .i64 a0_2) ∧ w15.cell? ⟨a1, 3, none⟩ = some (.slice A0_3 l0_3.length c0_3) ∧ w15.cell? ⟨a1, 4, none⟩ = some (.slice A0_4 l0_4.length c0_4) ∧ w15.cell? ⟨a1, 5, none⟩ = some (.slice A0_5 l0_5.length c0_5) := hS_
               refine norm_ (a' := ?_) ?_ ?_
               rotate_left
               ·simp only [putAll, Act.put, sA0, sA1, sA2]
                rfl
               refine one_ (i := 2) (N := some 5) #[true, true, true, true, true, true, true, true, false, true, true, true, false, true, true, true, false, false, false] rfl rfl (one_of HT_.out (by kernel_rfl)) (by decide) (fun K hK => ?_)
               refine goes_ Try.func65 (by kernel_rfl) rfl #[.agg #[.slice A0_0 l0_0.length c0_0, .slice A0_1 l0_1.length c0_1]] (by rfl) rfl rfl (by (try simp only [List.map_toArray, List.map_cons, List.map_nil]); first | done | rfl | (simp only [List.length_drop, List.length_take]; rfl)) ?_
               with_reducible refine (spec_l03Copy.calls _ _ l0_0 _ _ l0_1 aj ak _ ?side1 ?side2 ?side3 ?side4 A2.out).mono ?_
               (case side1 => repeat (first | exact (Kd.C_below bd.out HB.out) | (with_reducible refine Kd.C_alloc ?_ _) | (with_reducible refine Kd.C_drewN ?_ _) | (with_reducible refine Kd.C_drew ?_)))
               (case side2 => exact be.out)
               (case side3 => repeat (first | exact (Kd.C_below bf.out HB.out) | (with_reducible refine Kd.C_alloc ?_ _) | (with_reducible refine Kd.C_drewN ?_ _) | (with_reducible refine Kd.C_drew ?_)))
               (case side4 => exact bg.out)
               rintro e w16 ⟨ag, ah, rfl, ho0, ho1, hb⟩
               refine ⟨_, rfl, ?_⟩
               have n0_ := kA9 (Kd.R_below (by (with_reducible repeat (first | apply kA0 | apply kA1 | apply kA2)); exact aa.out) hb)
               have n1_ := kA9 (Kd.R_below (by (with_reducible repeat (first | apply kA0 | apply kA1 | apply kA2)); exact a9.out) hb)
               have n2_ := kA9 (Kd.R_below (by (with_reducible repeat (first | apply kA0 | apply kA1 | apply kA2)); exact a8.out) hb)
               have n3_ := kA9 (Kd.R_lower ho0 (below_size (by repeat (first | (with_reducible first | exact HB.out | apply kA5 | apply kA3 | apply kA4 | refine below_set ?_ a4.out | refine below_set ?_ a5.out) | exact HB.out))))
               have n4_ := kA9 (Kd.R_lower ho1 (below_size (by repeat (first | (with_reducible first | exact HB.out | apply kA5 | apply kA3 | apply kA4 | refine below_set ?_ a4.out | refine below_set ?_ a5.out) | exact HB.out))))
               have n5_ := kA9 (blk_below (g := a1) (o := .cells #[.slice A0_0 l0_0.length c0_0, .slice A0_1 l0_1.length c0_1, .int .i64 a0_2, .slice A0_3 l0_3.length c0_3, .slice A0_4 l0_4.length c0_4, .slice A0_5 l0_5.length c0_5] 34 (0, 0)) (by (with_reducible repeat (first | refine kA6 ?_ _ | refine kA8 ?_ | refine kA7 ?_ _)); exact a0.out) hb)
               have n6_ := kA9 (blk_below (g := a3) (o := .cells #[.slice none 0 0, .slice none 0 0, .int .i64 0, .slice none 0 0, .slice none 0 0, .slice none 0 0] 34 (0, 0)) (by (with_reducible repeat (first | refine kA6 ?_ _ | refine kA8 ?_ | refine kA7 ?_ _)); exact a2.out) hb)
               have n7_ := kA9 (below_step (by repeat (first | (with_reducible first | exact HB.out | apply kA5 | apply kA3 | apply kA4 | refine below_set ?_ a4.out | refine below_set ?_ a5.out) | exact HB.out)) hb)
               clear aa
               clear a9
               clear a8
               clear a0
               clear a2
               clear HB
               have aa := n0_
               have a9 := n1_
               have a8 := n2_
               have a6 := n3_
               have a7 := n4_
               have a0 := n5_
               have a2 := n6_
               have HB := n7_
               clear n0_ n1_ n2_ n3_ n4_ n5_ n6_ n7_
               (try clear hb)
               (try clear hb2)
               (try clear hk)
               (try clear hi)
               (try clear ho0)
               (try clear ho1)
               refine hK.out _ _ ⟨(blk_cell a0.out 0).trans rfl, (blk_cell a0.out 1).trans rfl, (blk_cell a0.out 2).trans rfl, (blk_cell a0.out 3).trans rfl, (blk_cell a0.out 4).trans rfl, (blk_cell a0.out 5).trans rfl⟩ (fun hHeld => ?_)
               clear hK K
               refine norm_ (a' := ?_) ?_ ?_
               rotate_left
               ·show Act.put _ (some 5) _ = _
                simp only [Act.put, sA0, sA1, sA2, i64_w, i32_w]
                rfl
               exact norm_ (by first | (simp only [putAll, Act.put, sA0, sA1, sA2]; done) | (simp only [putAll, Act.put, sA0, sA1, sA2]; rfl)) (b9 (ag, ah, ae, ad, ac) _ ⟨hHeld, (by (with_reducible repeat (first | apply kA0 | apply kA1 | apply kA2)); exact a6.out), (by (with_reducible repeat (first | apply kA0 | apply kA1 | apply kA2)); exact a7.out), (by (with_reducible repeat (first | apply kA0 | apply kA1 | apply kA2)); exact aa.out), (by (with_reducible repeat (first | apply kA0 | apply kA1 | apply kA2)); exact a9.out), (by (with_reducible repeat (first | apply kA0 | apply kA1 | apply kA2)); exact a8.out), (by (with_reducible repeat (first | refine kA6 ?_ _ | refine kA8 ?_ | refine kA7 ?_ _)); exact a0.out), (by (with_reducible repeat (first | refine kA6 ?_ _ | refine kA8 ?_ | refine kA7 ?_ _)); exact a2.out), (by repeat (first | (with_reducible first | exact HB.out | apply kA5 | apply kA3 | apply kA4 | refine below_set ?_ a4.out | refine below_set ?_ a5.out) | exact HB.out))⟩)
             ·skip
              rintro ⟨ag, ah, ad, ac⟩ w14 ⟨hS_, h0_, h1_, h2_, h3_, h4_, h5_, h6_⟩
              have n0_ : Aside0 (Kd.R Kd.string 9 w14 w.heap.size (fun _ => True) ag aj) := ⟨h0_⟩
              have n1_ : Aside0 (Kd.R k135 135 w14 w.heap.size (fun _ => True) ah ak) := ⟨h1_⟩
              have n2_ : Aside0 (Kd.R (Kd.int .i64) 3 w14 w.heap.size (fun k_ => some k_ ≠ (ac : Value).ownBlock) ad aq) := ⟨h2_⟩
              have n3_ : Aside0 (Kd.R (Kd.int .i64) 3 w14 w.heap.size (fun k_ => some k_ ≠ (ad : Value).ownBlock) ac am) := ⟨h3_⟩
              have n4_ : Aside0 (w14.heap[a1]? = some (.cells #[.slice A0_0 l0_0.length c0_0, .slice A0_1 l0_1.length c0_1, .int .i64 a0_2, .slice A0_3 l0_3.length c0_3, .slice A0_4 l0_4.length c0_4, .slice A0_5 l0_5.length c0_5] 34 (0, 0))) := ⟨h4_⟩
              have n5_ : Aside0 (w14.heap[a3]? = some (.cells #[.slice none 0 0, .slice none 0 0, .int .i64 0, .slice none 0 0, .slice none 0 0, .slice none 0 0] 34 (0, 0))) := ⟨h5_⟩
              have n6_ : Aside0 (Below w.heap.size w w14) := ⟨h6_⟩
              clear a0
              clear a2
              clear HB
              clear h0_ h1_ h2_ h3_ h4_ h5_ h6_
              have a6 := n0_
              have a7 := n1_
              have a9 := n2_
              have a8 := n3_
              have a0 := n4_
              have a2 := n5_
              have HB := n6_
              clear n0_ n1_ n2_ n3_ n4_ n5_ n6_
              have hHeld : w14.cell? ⟨a1, 0, none⟩ = some (.slice A0_0 l0_0.length c0_0) ∧ w14.cell? ⟨a1, 1, none⟩ = some (.slice A0_1 l0_1.length c0_1) ∧ w14.cell? ⟨a1, 2, none⟩ = some (.int .i64 a0_2) ∧ w14.cell? ⟨a1, 3, none⟩ = some (.slice A0_3 l0_3.length c0_3) ∧ w14.cell? ⟨a1, 4, none⟩ = some (.slice A0_4 l0_4.length c0_4) ∧ w14.cell? ⟨a1, 5, none⟩ = some (.slice A0_5 l0_5.length c0_5) := hS_
              refine norm_ (a' := ?_) ?_ ?_
              rotate_left
              ·simp only [putAll, Act.put, sA0, sA1, sA2]
               rfl
              refine one_ (i := 5) (N := some 8) #[true, true, true, true, true, true, true, true, false, true, true, true, false, true, true, true, false, false, false] rfl rfl (one_of HT_.out (by kernel_rfl)) (by decide) (fun K hK => ?_)
              refine Kd.R_lit_step (Kd.int .i64) _ 3 ?hg (N := 8) ?hd (xs := ([] : List Int)) (inner := []) (ok := fun _ => True) (okp := fun _ => True) ?hr ?hp (fun _ hk => hk) trivial (Below.refl _ _) (Nat.le_refl _) (by simp) ?_; (case hd => rfl); (case hg => rfl); (case hr => first | (go_simp; done) | (go_simp; rfl)); (case hp => exact (Reps.none _ _))
              intro ae w15 b0 hb hg_ hnew_
              clear hg_ hnew_
              (first | rw [← b1.out] at b0 | (simp only [Int.reduceToNat] at b0; rw [← b1.out] at b0))
              have n0_ := kA9 (Kd.R_below (by (with_reducible repeat (first | apply kA0 | apply kA1 | apply kA2)); exact a6.out) hb)
              have n1_ := kA9 (Kd.R_below (by (with_reducible repeat (first | apply kA0 | apply kA1 | apply kA2)); exact a7.out) hb)
              have n2_ := kA9 (Kd.R_elder' (by (with_reducible repeat (first | apply kA0 | apply kA1 | apply kA2)); exact a9.out) (Kd.R_base b0) hb)
              have n3_ := kA9 (Kd.R_elder' (by (with_reducible repeat (first | apply kA0 | apply kA1 | apply kA2)); exact a8.out) (Kd.R_base b0) hb)
              have n4_ := kA9 (Kd.R_lower (Kd.R_new' (Kd.R_new' b0 (Kd.R_lt (by (with_reducible repeat (first | apply kA0 | apply kA1 | apply kA2)); exact a9.out))) (Kd.R_lt (by (with_reducible repeat (first | apply kA0 | apply kA1 | apply kA2)); exact a8.out))) (below_size (by repeat (first | (with_reducible first | exact HB.out | apply kA5 | apply kA3 | apply kA4 | refine below_set ?_ a4.out | refine below_set ?_ a5.out) | exact HB.out))))
              have n5_ := kA9 (blk_below (g := a1) (o := .cells #[.slice A0_0 l0_0.length c0_0, .slice A0_1 l0_1.length c0_1, .int .i64 a0_2, .slice A0_3 l0_3.length c0_3, .slice A0_4 l0_4.length c0_4, .slice A0_5 l0_5.length c0_5] 34 (0, 0)) (by (with_reducible repeat (first | refine kA6 ?_ _ | refine kA8 ?_ | refine kA7 ?_ _)); exact a0.out) hb)
              have n6_ := kA9 (blk_below (g := a3) (o := .cells #[.slice none 0 0, .slice none 0 0, .int .i64 0, .slice none 0 0, .slice none 0 0, .slice none 0 0] 34 (0, 0)) (by (with_reducible repeat (first | refine kA6 ?_ _ | refine kA8 ?_ | refine kA7 ?_ _)); exact a2.out) hb)
              have n7_ := kA9 (below_step (by repeat (first | (with_reducible first | exact HB.out | apply kA5 | apply kA3 | apply kA4 | refine below_set ?_ a4.out | refine below_set ?_ a5.out) | exact HB.out)) hb)
              clear a6
              clear a7
              clear a9
              clear a8
              clear a0
              clear a2
              clear HB
              have a6 := n0_
              have a7 := n1_
              have a9 := n2_
              have a8 := n3_
              have aa := n4_
              have a0 := n5_
              have a2 := n6_
              have HB := n7_
              clear n0_ n1_ n2_ n3_ n4_ n5_ n6_ n7_
              clear hb b0
              refine hK.out _ _ ⟨(blk_cell a0.out 0).trans rfl, (blk_cell a0.out 1).trans rfl, (blk_cell a0.out 2).trans rfl, (blk_cell a0.out 3).trans rfl, (blk_cell a0.out 4).trans rfl, (blk_cell a0.out 5).trans rfl⟩ (fun hHeld => ?_)
              clear hK K
              refine norm_ (a' := ?_) ?_ ?_
              rotate_left
              ·show Act.put _ (some 8) _ = _
               simp only [Act.put, sA0, sA1, sA2, i64_w, i32_w]
               rfl
              exact norm_ (by first | (simp only [putAll, Act.put, sA0, sA1, sA2]; done) | (simp only [putAll, Act.put, sA0, sA1, sA2]; rfl)) (b9 (ag, ah, ae, ad, ac) _ ⟨hHeld, (by (with_reducible repeat (first | apply kA0 | apply kA1 | apply kA2)); exact a6.out), (by (with_reducible repeat (first | apply kA0 | apply kA1 | apply kA2)); exact a7.out), (by (with_reducible repeat (first | apply kA0 | apply kA1 | apply kA2)); exact Kd.R_mono aa.out (fun _ hk => ⟨hk.1.2, hk.2⟩)), (by (with_reducible repeat (first | apply kA0 | apply kA1 | apply kA2)); exact Kd.R_mono a9.out (fun _ hk => ⟨hk.2, hk.1⟩)), (by (with_reducible repeat (first | apply kA0 | apply kA1 | apply kA2)); exact Kd.R_mono a8.out (fun _ hk => ⟨hk.2, hk.1⟩)), (by (with_reducible repeat (first | refine kA6 ?_ _ | refine kA8 ?_ | refine kA7 ?_ _)); exact a0.out), (by (with_reducible repeat (first | refine kA6 ?_ _ | refine kA8 ?_ | refine kA7 ?_ _)); exact a2.out), (by repeat (first | (with_reducible first | exact HB.out | apply kA5 | apply kA3 | apply kA4 | refine below_set ?_ a4.out | refine below_set ?_ a5.out) | exact HB.out))⟩)
            ·skip
             rintro ⟨ag, ah, ae, ac⟩ w14 ⟨hS_, h0_, h1_, h2_, h3_, h4_, h5_, h6_⟩
             have n0_ : Aside0 (Kd.R Kd.string 9 w14 w.heap.size (fun _ => True) ag aj) := ⟨h0_⟩
             have n1_ : Aside0 (Kd.R k135 135 w14 w.heap.size (fun _ => True) ah ak) := ⟨h1_⟩
             have n2_ : Aside0 (Kd.R (Kd.int .i64) 3 w14 w.heap.size (fun k_ => some k_ ≠ (ac : Value).ownBlock) ae av) := ⟨h2_⟩
             have n3_ : Aside0 (Kd.R (Kd.int .i64) 3 w14 w.heap.size (fun k_ => some k_ ≠ (ae : Value).ownBlock) ac am) := ⟨h3_⟩
             have n4_ : Aside0 (w14.heap[a1]? = some (.cells #[.slice A0_0 l0_0.length c0_0, .slice A0_1 l0_1.length c0_1, .int .i64 a0_2, .slice A0_3 l0_3.length c0_3, .slice A0_4 l0_4.length c0_4, .slice A0_5 l0_5.length c0_5] 34 (0, 0))) := ⟨h4_⟩
             have n5_ : Aside0 (w14.heap[a3]? = some (.cells #[.slice none 0 0, .slice none 0 0, .int .i64 0, .slice none 0 0, .slice none 0 0, .slice none 0 0] 34 (0, 0))) := ⟨h5_⟩
             have n6_ : Aside0 (Below w.heap.size w w14) := ⟨h6_⟩
             clear a0
             clear a2
             clear HB
             clear h0_ h1_ h2_ h3_ h4_ h5_ h6_
             have a6 := n0_
             have a7 := n1_
             have aa := n2_
             have a8 := n3_
             have a0 := n4_
             have a2 := n5_
             have HB := n6_
             clear n0_ n1_ n2_ n3_ n4_ n5_ n6_
             have hHeld : w14.cell? ⟨a1, 0, none⟩ = some (.slice A0_0 l0_0.length c0_0) ∧ w14.cell? ⟨a1, 1, none⟩ = some (.slice A0_1 l0_1.length c0_1) ∧ w14.cell? ⟨a1, 2, none⟩ = some (.int .i64 a0_2) ∧ w14.cell? ⟨a1, 3, none⟩ = some (.slice A0_3 l0_3.length c0_3) ∧ w14.cell? ⟨a1, 4, none⟩ = some (.slice A0_4 l0_4.length c0_4) ∧ w14.cell? ⟨a1, 5, none⟩ = some (.slice A0_5 l0_5.length c0_5) := hS_
             refine norm_ (a' := ?_) ?_ ?_
             rotate_left
             ·simp only [putAll, Act.put, sA0, sA1, sA2]
              rfl
             refine two_ (i := 8) (j := 9) (Ni := some 11) (Nj := some 12) #[true, true, true, true, true, true, true, true, true, false, true, true, false, true, true, true, false, false, false] #[true, true, true, true, true, true, true, true, false, true, true, true, false, true, true, true, false, false, false] rfl rfl rfl rfl (two_of HT_.out (by kernel_rfl)) (by decide) (by decide) (fun K hK => ?_) (fun K hK => ?_)
             ·skip
              refine Kd.R_append_rows_step (Kd.int .i64) (w0 := w) w.heap.size (by rfl) (.tmp 8) (.tmp 10) 26 3 (.int .i64 0) 8 rfl Try.underlying26 info3 rfl (by decide) (by omega) ae av l0_3 _ _ _ (fun k_ => some k_ ≠ (ac : Value).ownBlock) (fun _ => False) rfl rfl ?aO ?aR (fun _ _ h => h) (fun _ h => h.elim) ?aF ?aB ?aS ?aL ?_
              (case aR => repeat (first | exact (Kd.C_below c9.out HB.out) | (with_reducible refine Kd.C_alloc ?_ _) | (with_reducible refine Kd.C_drewN ?_ _) | (with_reducible refine Kd.C_drew ?_)))
              (case aB => exact (by repeat (first | (with_reducible first | exact HB.out | apply kA5 | apply kA3 | apply kA4 | refine below_set ?_ a4.out | refine below_set ?_ a5.out) | exact HB.out)))
              (case aF => exact (fun k_ hk => Kd.fresh' (Kd.R_lt (by (with_reducible repeat (first | apply kA0 | apply kA1 | apply kA2)); exact a8.out)) k_ hk))
              (case aO => exact (by (with_reducible repeat (first | apply kA0 | apply kA1 | apply kA2)); exact aa.out))
              (case aS => exact (below_size (by repeat (first | (with_reducible first | exact HB.out | apply kA5 | apply kA3 | apply kA4 | refine below_set ?_ a4.out | refine below_set ?_ a5.out) | exact HB.out))))
              (case aL => have := cb.out; omega)
              intro ar w15 ho hb hg hat
              rw [← ca.out] at ho
              have n0_ := kA9 (blk_grown (g := a1) (o := .cells #[.slice A0_0 l0_0.length c0_0, .slice A0_1 l0_1.length c0_1, .int .i64 a0_2, .slice A0_3 l0_3.length c0_3, .slice A0_4 l0_4.length c0_4, .slice A0_5 l0_5.length c0_5] 34 (0, 0)) (by (with_reducible repeat (first | refine kA6 ?_ _ | refine kA8 ?_ | refine kA7 ?_ _)); exact a0.out) hg (Kd.R_ne aa.out a0.out (by decide)))
              have n1_ := kA9 (blk_grown (g := a3) (o := .cells #[.slice none 0 0, .slice none 0 0, .int .i64 0, .slice none 0 0, .slice none 0 0, .slice none 0 0] 34 (0, 0)) (by (with_reducible repeat (first | refine kA6 ?_ _ | refine kA8 ?_ | refine kA7 ?_ _)); exact a2.out) hg (Kd.R_ne aa.out a2.out (by decide)))
              have n2_ := kA9 (Kd.R_over' (by (with_reducible repeat (first | apply kA0 | apply kA1 | apply kA2)); exact a6.out) (Kd.R_typed (by (with_reducible repeat (first | apply kA0 | apply kA1 | apply kA2)); exact aa.out)) (by decide) hg)
              have n3_ := kA9 (Kd.R_over' (by (with_reducible repeat (first | apply kA0 | apply kA1 | apply kA2)); exact a7.out) (Kd.R_typed (by (with_reducible repeat (first | apply kA0 | apply kA1 | apply kA2)); exact aa.out)) (by decide) hg)
              have n4_ := kA9 (Kd.R_after (ok := (fun _ => True)) (by (with_reducible repeat (first | apply kA0 | apply kA1 | apply kA2)); exact Kd.R_mono a8.out (fun _ hk => ⟨trivial, hk⟩)) hg hat)
              have n5_ := kA9 (hb)
              have n6_ := kA9 (ho)
              clear a0
              clear a2
              clear a6
              clear a7
              clear a8
              clear HB
              clear aa
              have a0 := n0_
              have a2 := n1_
              have a6 := n2_
              have a7 := n3_
              have a8 := n4_
              have HB := n5_
              have af := n6_
              clear n0_ n1_ n2_ n3_ n4_ n5_ n6_
              clear ho hb hg hat
              refine hK.out _ _ ⟨(blk_cell a0.out 0).trans rfl, (blk_cell a0.out 1).trans rfl, (blk_cell a0.out 2).trans rfl, (blk_cell a0.out 3).trans rfl, (blk_cell a0.out 4).trans rfl, (blk_cell a0.out 5).trans rfl⟩ (fun hHeld => ?_)
              clear hK K
              refine norm_ (a' := ?_) ?_ ?_
              rotate_left
              ·show Act.put _ (some 11) _ = _
               simp only [Act.put, sA0, sA1, sA2, i64_w, i32_w]
               rfl
              exact norm_ (by first | (simp only [putAll, Act.put, sA0, sA1, sA2]; done) | (simp only [putAll, Act.put, sA0, sA1, sA2]; rfl)) (hJ2_5_8_13 (ag, ah, ae, ar, ac) _ ⟨hHeld, (by (with_reducible repeat (first | apply kA0 | apply kA1 | apply kA2)); exact a6.out), (by (with_reducible repeat (first | apply kA0 | apply kA1 | apply kA2)); exact a7.out), (by (with_reducible repeat (first | apply kA0 | apply kA1 | apply kA2)); exact af.out), (by (with_reducible repeat (first | apply kA0 | apply kA1 | apply kA2)); exact Kd.R_mono a8.out (fun _ hk => hk.2)), (by (with_reducible repeat (first | refine kA6 ?_ _ | refine kA8 ?_ | refine kA7 ?_ _)); exact a0.out), (by (with_reducible repeat (first | refine kA6 ?_ _ | refine kA8 ?_ | refine kA7 ?_ _)); exact a2.out), (by repeat (first | (with_reducible first | exact HB.out | apply kA5 | apply kA3 | apply kA4 | refine below_set ?_ a4.out | refine below_set ?_ a5.out) | exact HB.out))⟩)
             ·skip
              refine Kd.R_lit_step (Kd.int .i64) _ 3 ?hg (N := 12) ?hd (xs := ([] : List Int)) (inner := []) (ok := fun _ => True) (okp := fun _ => True) ?hr ?hp (fun _ hk => hk) trivial (Below.refl _ _) (Nat.le_refl _) (by simp) ?_; (case hd => rfl); (case hg => rfl); (case hr => first | (go_simp; done) | (go_simp; rfl)); (case hp => exact (Reps.none _ _))
              intro ad w15 b0 hb hg_ hnew_
              clear hg_ hnew_
              (first | rw [← ay.out] at b0 | (simp only [Int.reduceToNat] at b0; rw [← ay.out] at b0))
              have n0_ := kA9 (Kd.R_below (by (with_reducible repeat (first | apply kA0 | apply kA1 | apply kA2)); exact a6.out) hb)
              have n1_ := kA9 (Kd.R_below (by (with_reducible repeat (first | apply kA0 | apply kA1 | apply kA2)); exact a7.out) hb)
              have n2_ := kA9 (Kd.R_elder' (by (with_reducible repeat (first | apply kA0 | apply kA1 | apply kA2)); exact aa.out) (Kd.R_base b0) hb)
              have n3_ := kA9 (Kd.R_elder' (by (with_reducible repeat (first | apply kA0 | apply kA1 | apply kA2)); exact a8.out) (Kd.R_base b0) hb)
              have n4_ := kA9 (Kd.R_lower (Kd.R_new' (Kd.R_new' b0 (Kd.R_lt (by (with_reducible repeat (first | apply kA0 | apply kA1 | apply kA2)); exact aa.out))) (Kd.R_lt (by (with_reducible repeat (first | apply kA0 | apply kA1 | apply kA2)); exact a8.out))) (below_size (by repeat (first | (with_reducible first | exact HB.out | apply kA5 | apply kA3 | apply kA4 | refine below_set ?_ a4.out | refine below_set ?_ a5.out) | exact HB.out))))
              have n5_ := kA9 (blk_below (g := a1) (o := .cells #[.slice A0_0 l0_0.length c0_0, .slice A0_1 l0_1.length c0_1, .int .i64 a0_2, .slice A0_3 l0_3.length c0_3, .slice A0_4 l0_4.length c0_4, .slice A0_5 l0_5.length c0_5] 34 (0, 0)) (by (with_reducible repeat (first | refine kA6 ?_ _ | refine kA8 ?_ | refine kA7 ?_ _)); exact a0.out) hb)
              have n6_ := kA9 (blk_below (g := a3) (o := .cells #[.slice none 0 0, .slice none 0 0, .int .i64 0, .slice none 0 0, .slice none 0 0, .slice none 0 0] 34 (0, 0)) (by (with_reducible repeat (first | refine kA6 ?_ _ | refine kA8 ?_ | refine kA7 ?_ _)); exact a2.out) hb)
              have n7_ := kA9 (below_step (by repeat (first | (with_reducible first | exact HB.out | apply kA5 | apply kA3 | apply kA4 | refine below_set ?_ a4.out | refine below_set ?_ a5.out) | exact HB.out)) hb)
              clear a6
              clear a7
              clear aa
              clear a8
              clear a0
              clear a2
              clear HB
              have a6 := n0_
              have a7 := n1_
              have aa := n2_
              have a8 := n3_
              have a9 := n4_
              have a0 := n5_
              have a2 := n6_
              have HB := n7_
              clear n0_ n1_ n2_ n3_ n4_ n5_ n6_ n7_
              clear hb b0
              refine hK.out _ _ ⟨(blk_cell a0.out 0).trans rfl, (blk_cell a0.out 1).trans rfl, (blk_cell a0.out 2).trans rfl, (blk_cell a0.out 3).trans rfl, (blk_cell a0.out 4).trans rfl, (blk_cell a0.out 5).trans rfl⟩ (fun hHeld => ?_)
              clear hK K
              refine norm_ (a' := ?_) ?_ ?_
              rotate_left
              ·show Act.put _ (some 12) _ = _
               simp only [Act.put, sA0, sA1, sA2, i64_w, i32_w]
               rfl
              exact norm_ (by first | (simp only [putAll, Act.put, sA0, sA1, sA2]; done) | (simp only [putAll, Act.put, sA0, sA1, sA2]; rfl)) (b9 (ag, ah, ae, ad, ac) _ ⟨hHeld, (by (with_reducible repeat (first | apply kA0 | apply kA1 | apply kA2)); exact a6.out), (by (with_reducible repeat (first | apply kA0 | apply kA1 | apply kA2)); exact a7.out), (by (with_reducible repeat (first | apply kA0 | apply kA1 | apply kA2)); exact Kd.R_mono aa.out (fun _ hk => ⟨hk.2, hk.1⟩)), (by (with_reducible repeat (first | apply kA0 | apply kA1 | apply kA2)); exact Kd.R_mono a9.out (fun _ hk => ⟨hk.1.2, hk.2⟩)), (by (with_reducible repeat (first | apply kA0 | apply kA1 | apply kA2)); exact a8.out), (by (with_reducible repeat (first | refine kA6 ?_ _ | refine kA8 ?_ | refine kA7 ?_ _)); exact a0.out), (by (with_reducible repeat (first | refine kA6 ?_ _ | refine kA8 ?_ | refine kA7 ?_ _)); exact a2.out), (by repeat (first | (with_reducible first | exact HB.out | apply kA5 | apply kA3 | apply kA4 | refine below_set ?_ a4.out | refine below_set ?_ a5.out) | exact HB.out))⟩)
           ·skip
            rintro ⟨ag, ah, ae, ad⟩ w14 ⟨hS_, h0_, h1_, h2_, h3_, h4_, h5_, h6_⟩
            have n0_ : Aside0 (Kd.R Kd.string 9 w14 w.heap.size (fun _ => True) ag aj) := ⟨h0_⟩
            have n1_ : Aside0 (Kd.R k135 135 w14 w.heap.size (fun _ => True) ah ak) := ⟨h1_⟩
            have n2_ : Aside0 (Kd.R (Kd.int .i64) 3 w14 w.heap.size (fun k_ => some k_ ≠ (ad : Value).ownBlock) ae av) := ⟨h2_⟩
            have n3_ : Aside0 (Kd.R (Kd.int .i64) 3 w14 w.heap.size (fun k_ => some k_ ≠ (ae : Value).ownBlock) ad aq) := ⟨h3_⟩
            have n4_ : Aside0 (w14.heap[a1]? = some (.cells #[.slice A0_0 l0_0.length c0_0, .slice A0_1 l0_1.length c0_1, .int .i64 a0_2, .slice A0_3 l0_3.length c0_3, .slice A0_4 l0_4.length c0_4, .slice A0_5 l0_5.length c0_5] 34 (0, 0))) := ⟨h4_⟩
            have n5_ : Aside0 (w14.heap[a3]? = some (.cells #[.slice none 0 0, .slice none 0 0, .int .i64 0, .slice none 0 0, .slice none 0 0, .slice none 0 0] 34 (0, 0))) := ⟨h5_⟩
            have n6_ : Aside0 (Below w.heap.size w w14) := ⟨h6_⟩
            clear a0
            clear a2
            clear HB
            clear h0_ h1_ h2_ h3_ h4_ h5_ h6_
            have a6 := n0_
            have a7 := n1_
            have aa := n2_
            have a9 := n3_
            have a0 := n4_
            have a2 := n5_
            have HB := n6_
            clear n0_ n1_ n2_ n3_ n4_ n5_ n6_
            have hHeld : w14.cell? ⟨a1, 0, none⟩ = some (.slice A0_0 l0_0.length c0_0) ∧ w14.cell? ⟨a1, 1, none⟩ = some (.slice A0_1 l0_1.length c0_1) ∧ w14.cell? ⟨a1, 2, none⟩ = some (.int .i64 a0_2) ∧ w14.cell? ⟨a1, 3, none⟩ = some (.slice A0_3 l0_3.length c0_3) ∧ w14.cell? ⟨a1, 4, none⟩ = some (.slice A0_4 l0_4.length c0_4) ∧ w14.cell? ⟨a1, 5, none⟩ = some (.slice A0_5 l0_5.length c0_5) := hS_
            refine norm_ (a' := ?_) ?_ ?_
            rotate_left
            ·simp only [putAll, Act.put, sA0, sA1, sA2]
             rfl
            refine two_ (i := 8) (j := 13) (Ni := some 11) (Nj := some 16) #[true, true, true, true, true, true, true, true, true, true, true, true, false, false, true, true, false, false, false] #[true, true, true, true, true, true, true, true, false, true, true, true, false, true, true, true, false, false, false] rfl rfl rfl rfl (two_of HT_.out (by kernel_rfl)) (by decide) (by decide) (fun K hK => ?_) (fun K hK => ?_)
            ·skip
             refine Kd.R_append_rows_step (Kd.int .i64) (w0 := w) w.heap.size (by rfl) (.tmp 8) (.tmp 10) 26 3 (.int .i64 0) 8 rfl Try.underlying26 info3 rfl (by decide) (by omega) ae av l0_3 _ _ _ (fun k_ => some k_ ≠ (ad : Value).ownBlock) (fun _ => False) rfl rfl ?aO ?aR (fun _ _ h => h) (fun _ h => h.elim) ?aF ?aB ?aS ?aL ?_
             (case aR => repeat (first | exact (Kd.C_below c9.out HB.out) | (with_reducible refine Kd.C_alloc ?_ _) | (with_reducible refine Kd.C_drewN ?_ _) | (with_reducible refine Kd.C_drew ?_)))
             (case aB => exact (by repeat (first | (with_reducible first | exact HB.out | apply kA5 | apply kA3 | apply kA4 | refine below_set ?_ a4.out | refine below_set ?_ a5.out) | exact HB.out)))
             (case aF => exact (fun k_ hk => Kd.fresh' (Kd.R_lt (by (with_reducible repeat (first | apply kA0 | apply kA1 | apply kA2)); exact a9.out)) k_ hk))
             (case aO => exact (by (with_reducible repeat (first | apply kA0 | apply kA1 | apply kA2)); exact aa.out))
             (case aS => exact (below_size (by repeat (first | (with_reducible first | exact HB.out | apply kA5 | apply kA3 | apply kA4 | refine below_set ?_ a4.out | refine below_set ?_ a5.out) | exact HB.out))))
             (case aL => have := cb.out; omega)
             intro ar w15 ho hb hg hat
             rw [← ca.out] at ho
             have n0_ := kA9 (blk_grown (g := a1) (o := .cells #[.slice A0_0 l0_0.length c0_0, .slice A0_1 l0_1.length c0_1, .int .i64 a0_2, .slice A0_3 l0_3.length c0_3, .slice A0_4 l0_4.length c0_4, .slice A0_5 l0_5.length c0_5] 34 (0, 0)) (by (with_reducible repeat (first | refine kA6 ?_ _ | refine kA8 ?_ | refine kA7 ?_ _)); exact a0.out) hg (Kd.R_ne aa.out a0.out (by decide)))
             have n1_ := kA9 (blk_grown (g := a3) (o := .cells #[.slice none 0 0, .slice none 0 0, .int .i64 0, .slice none 0 0, .slice none 0 0, .slice none 0 0] 34 (0, 0)) (by (with_reducible repeat (first | refine kA6 ?_ _ | refine kA8 ?_ | refine kA7 ?_ _)); exact a2.out) hg (Kd.R_ne aa.out a2.out (by decide)))
             have n2_ := kA9 (Kd.R_over' (by (with_reducible repeat (first | apply kA0 | apply kA1 | apply kA2)); exact a6.out) (Kd.R_typed (by (with_reducible repeat (first | apply kA0 | apply kA1 | apply kA2)); exact aa.out)) (by decide) hg)
             have n3_ := kA9 (Kd.R_over' (by (with_reducible repeat (first | apply kA0 | apply kA1 | apply kA2)); exact a7.out) (Kd.R_typed (by (with_reducible repeat (first | apply kA0 | apply kA1 | apply kA2)); exact aa.out)) (by decide) hg)
             have n4_ := kA9 (Kd.R_after (ok := (fun _ => True)) (by (with_reducible repeat (first | apply kA0 | apply kA1 | apply kA2)); exact Kd.R_mono a9.out (fun _ hk => ⟨trivial, hk⟩)) hg hat)
             have n5_ := kA9 (hb)
             have n6_ := kA9 (ho)
             clear a0
             clear a2
             clear a6
             clear a7
             clear a9
             clear HB
             clear aa
             have a0 := n0_
             have a2 := n1_
             have a6 := n2_
             have a7 := n3_
             have a9 := n4_
             have HB := n5_
             have af := n6_
             clear n0_ n1_ n2_ n3_ n4_ n5_ n6_
             clear ho hb hg hat
             refine hK.out _ _ ⟨(blk_cell a0.out 0).trans rfl, (blk_cell a0.out 1).trans rfl, (blk_cell a0.out 2).trans rfl, (blk_cell a0.out 3).trans rfl, (blk_cell a0.out 4).trans rfl, (blk_cell a0.out 5).trans rfl⟩ (fun hHeld => ?_)
             clear hK K
             refine norm_ (a' := ?_) ?_ ?_
             rotate_left
             ·show Act.put _ (some 11) _ = _
              simp only [Act.put, sA0, sA1, sA2, i64_w, i32_w]
              rfl
             exact norm_ (by first | (simp only [putAll, Act.put, sA0, sA1, sA2]; done) | (simp only [putAll, Act.put, sA0, sA1, sA2]; rfl)) (hJ2_5_8_9 (ag, ah, ae, ar, ad) _ ⟨hHeld, (by (with_reducible repeat (first | apply kA0 | apply kA1 | apply kA2)); exact a6.out), (by (with_reducible repeat (first | apply kA0 | apply kA1 | apply kA2)); exact a7.out), (by (with_reducible repeat (first | apply kA0 | apply kA1 | apply kA2)); exact af.out), (by (with_reducible repeat (first | apply kA0 | apply kA1 | apply kA2)); exact Kd.R_mono a9.out (fun _ hk => hk.2)), (by (with_reducible repeat (first | refine kA6 ?_ _ | refine kA8 ?_ | refine kA7 ?_ _)); exact a0.out), (by (with_reducible repeat (first | refine kA6 ?_ _ | refine kA8 ?_ | refine kA7 ?_ _)); exact a2.out), (by repeat (first | (with_reducible first | exact HB.out | apply kA5 | apply kA3 | apply kA4 | refine below_set ?_ a4.out | refine below_set ?_ a5.out) | exact HB.out))⟩)
            ·skip
             refine Kd.R_lit_step (Kd.int .i64) _ 3 ?hg (N := 16) ?hd (xs := ([] : List Int)) (inner := []) (ok := fun _ => True) (okp := fun _ => True) ?hr ?hp (fun _ hk => hk) trivial (Below.refl _ _) (Nat.le_refl _) (by simp) ?_; (case hd => rfl); (case hg => rfl); (case hr => first | (go_simp; done) | (go_simp; rfl)); (case hp => exact (Reps.none _ _))
             intro ac w15 b0 hb hg_ hnew_
             clear hg_ hnew_
             (first | rw [← ax.out] at b0 | (simp only [Int.reduceToNat] at b0; rw [← ax.out] at b0))
             have n0_ := kA9 (Kd.R_below (by (with_reducible repeat (first | apply kA0 | apply kA1 | apply kA2)); exact a6.out) hb)
             have n1_ := kA9 (Kd.R_below (by (with_reducible repeat (first | apply kA0 | apply kA1 | apply kA2)); exact a7.out) hb)
             have n2_ := kA9 (Kd.R_elder' (by (with_reducible repeat (first | apply kA0 | apply kA1 | apply kA2)); exact aa.out) (Kd.R_base b0) hb)
             have n3_ := kA9 (Kd.R_elder' (by (with_reducible repeat (first | apply kA0 | apply kA1 | apply kA2)); exact a9.out) (Kd.R_base b0) hb)
             have n4_ := kA9 (Kd.R_lower (Kd.R_new' (Kd.R_new' b0 (Kd.R_lt (by (with_reducible repeat (first | apply kA0 | apply kA1 | apply kA2)); exact aa.out))) (Kd.R_lt (by (with_reducible repeat (first | apply kA0 | apply kA1 | apply kA2)); exact a9.out))) (below_size (by repeat (first | (with_reducible first | exact HB.out | apply kA5 | apply kA3 | apply kA4 | refine below_set ?_ a4.out | refine below_set ?_ a5.out) | exact HB.out))))
             have n5_ := kA9 (blk_below (g := a1) (o := .cells #[.slice A0_0 l0_0.length c0_0, .slice A0_1 l0_1.length c0_1, .int .i64 a0_2, .slice A0_3 l0_3.length c0_3, .slice A0_4 l0_4.length c0_4, .slice A0_5 l0_5.length c0_5] 34 (0, 0)) (by (with_reducible repeat (first | refine kA6 ?_ _ | refine kA8 ?_ | refine kA7 ?_ _)); exact a0.out) hb)
             have n6_ := kA9 (blk_below (g := a3) (o := .cells #[.slice none 0 0, .slice none 0 0, .int .i64 0, .slice none 0 0, .slice none 0 0, .slice none 0 0] 34 (0, 0)) (by (with_reducible repeat (first | refine kA6 ?_ _ | refine kA8 ?_ | refine kA7 ?_ _)); exact a2.out) hb)
             have n7_ := kA9 (below_step (by repeat (first | (with_reducible first | exact HB.out | apply kA5 | apply kA3 | apply kA4 | refine below_set ?_ a4.out | refine below_set ?_ a5.out) | exact HB.out)) hb)
             clear a6
             clear a7
             clear aa
             clear a9
             clear a0
             clear a2
             clear HB
             have a6 := n0_
             have a7 := n1_
             have aa := n2_
             have a9 := n3_
             have a8 := n4_
             have a0 := n5_
             have a2 := n6_
             have HB := n7_
             clear n0_ n1_ n2_ n3_ n4_ n5_ n6_ n7_
             clear hb b0
             refine hK.out _ _ ⟨(blk_cell a0.out 0).trans rfl, (blk_cell a0.out 1).trans rfl, (blk_cell a0.out 2).trans rfl, (blk_cell a0.out 3).trans rfl, (blk_cell a0.out 4).trans rfl, (blk_cell a0.out 5).trans rfl⟩ (fun hHeld => ?_)
             clear hK K
             refine norm_ (a' := ?_) ?_ ?_
             rotate_left
             ·show Act.put _ (some 16) _ = _
              simp only [Act.put, sA0, sA1, sA2, i64_w, i32_w]
              rfl
             exact norm_ (by first | (simp only [putAll, Act.put, sA0, sA1, sA2]; done) | (simp only [putAll, Act.put, sA0, sA1, sA2]; rfl)) (b9 (ag, ah, ae, ad, ac) _ ⟨hHeld, (by (with_reducible repeat (first | apply kA0 | apply kA1 | apply kA2)); exact a6.out), (by (with_reducible repeat (first | apply kA0 | apply kA1 | apply kA2)); exact a7.out), (by (with_reducible repeat (first | apply kA0 | apply kA1 | apply kA2)); exact aa.out), (by (with_reducible repeat (first | apply kA0 | apply kA1 | apply kA2)); exact a9.out), (by (with_reducible repeat (first | apply kA0 | apply kA1 | apply kA2)); exact Kd.R_mono a8.out (fun _ hk => ⟨hk.1.2, hk.2⟩)), (by (with_reducible repeat (first | refine kA6 ?_ _ | refine kA8 ?_ | refine kA7 ?_ _)); exact a0.out), (by (with_reducible repeat (first | refine kA6 ?_ _ | refine kA8 ?_ | refine kA7 ?_ _)); exact a2.out), (by repeat (first | (with_reducible first | exact HB.out | apply kA5 | apply kA3 | apply kA4 | refine below_set ?_ a4.out | refine below_set ?_ a5.out) | exact HB.out))⟩)
          ·skip
           rintro ⟨ag, ah, ae, ar⟩ w13 ⟨hS_, h0_, h1_, h2_, h3_, h4_, h5_⟩
           have n0_ : Aside0 (Kd.R Kd.string 9 w13 w.heap.size (fun _ => True) ag aj) := ⟨h0_⟩
           have n1_ : Aside0 (Kd.R k135 135 w13 w.heap.size (fun _ => True) ah ak) := ⟨h1_⟩
           have n2_ : Aside0 (Kd.R (Kd.int .i64) 3 w13 w.heap.size (fun _ => True) ar az) := ⟨h2_⟩
           have n3_ : Aside0 (w13.heap[a1]? = some (.cells #[.slice A0_0 l0_0.length c0_0, .slice A0_1 l0_1.length c0_1, .int .i64 a0_2, .slice A0_3 l0_3.length c0_3, .slice A0_4 l0_4.length c0_4, .slice A0_5 l0_5.length c0_5] 34 (0, 0))) := ⟨h3_⟩
           have n4_ : Aside0 (w13.heap[a3]? = some (.cells #[.slice none 0 0, .slice none 0 0, .int .i64 0, .slice none 0 0, .slice none 0 0, .slice none 0 0] 34 (0, 0))) := ⟨h4_⟩
           have n5_ : Aside0 (Below w.heap.size w w13) := ⟨h5_⟩
           clear a0
           clear a2
           clear HB
           clear h0_ h1_ h2_ h3_ h4_ h5_
           have a6 := n0_
           have a7 := n1_
           have af := n2_
           have a0 := n3_
           have a2 := n4_
           have HB := n5_
           clear n0_ n1_ n2_ n3_ n4_ n5_
           have hHeld : w13.cell? ⟨a1, 0, none⟩ = some (.slice A0_0 l0_0.length c0_0) ∧ w13.cell? ⟨a1, 1, none⟩ = some (.slice A0_1 l0_1.length c0_1) ∧ w13.cell? ⟨a1, 2, none⟩ = some (.int .i64 a0_2) ∧ w13.cell? ⟨a1, 3, none⟩ = some (.slice A0_3 l0_3.length c0_3) ∧ w13.cell? ⟨a1, 4, none⟩ = some (.slice A0_4 l0_4.length c0_4) ∧ w13.cell? ⟨a1, 5, none⟩ = some (.slice A0_5 l0_5.length c0_5) := hS_
           refine norm_ (a' := ?_) ?_ ?_
           rotate_left
           ·simp only [putAll, Act.put, sA0, sA1, sA2]
            rfl
           refine two_ (i := 9) (j := 13) (Ni := some 12) (Nj := some 16) #[true, true, true, true, true, true, true, true, true, true, true, true, false, false, true, true, false, false, false] #[true, true, true, true, true, true, true, true, true, false, true, true, false, true, true, true, false, false, false] rfl rfl rfl rfl (two_of HT_.out (by kernel_rfl)) (by decide) (by decide) (fun K hK => ?_) (fun K hK => ?_)
           ·skip
            refine Kd.R_lit_step (Kd.int .i64) _ 3 ?hg (N := 12) ?hd (xs := ([] : List Int)) (inner := []) (ok := fun _ => True) (okp := fun _ => True) ?hr ?hp (fun _ hk => hk) trivial (Below.refl _ _) (Nat.le_refl _) (by simp) ?_; (case hd => rfl); (case hg => rfl); (case hr => first | (go_simp; done) | (go_simp; rfl)); (case hp => exact (Reps.none _ _))
            intro ad w14 au hb hg_ hnew_
            clear hg_ hnew_
            (first | rw [← ay.out] at au | (simp only [Int.reduceToNat] at au; rw [← ay.out] at au))
            have n0_ := kA9 (Kd.R_below (by (with_reducible repeat (first | apply kA0 | apply kA1 | apply kA2)); exact a6.out) hb)
            have n1_ := kA9 (Kd.R_below (by (with_reducible repeat (first | apply kA0 | apply kA1 | apply kA2)); exact a7.out) hb)
            have n2_ := kA9 (Kd.R_elder' (by (with_reducible repeat (first | apply kA0 | apply kA1 | apply kA2)); exact af.out) (Kd.R_base au) hb)
            have n3_ := kA9 (Kd.R_lower (Kd.R_new' au (Kd.R_lt (by (with_reducible repeat (first | apply kA0 | apply kA1 | apply kA2)); exact af.out))) (below_size (by repeat (first | (with_reducible first | exact HB.out | apply kA5 | apply kA3 | apply kA4 | refine below_set ?_ a4.out | refine below_set ?_ a5.out) | exact HB.out))))
            have n4_ := kA9 (blk_below (g := a1) (o := .cells #[.slice A0_0 l0_0.length c0_0, .slice A0_1 l0_1.length c0_1, .int .i64 a0_2, .slice A0_3 l0_3.length c0_3, .slice A0_4 l0_4.length c0_4, .slice A0_5 l0_5.length c0_5] 34 (0, 0)) (by (with_reducible repeat (first | refine kA6 ?_ _ | refine kA8 ?_ | refine kA7 ?_ _)); exact a0.out) hb)
            have n5_ := kA9 (blk_below (g := a3) (o := .cells #[.slice none 0 0, .slice none 0 0, .int .i64 0, .slice none 0 0, .slice none 0 0, .slice none 0 0] 34 (0, 0)) (by (with_reducible repeat (first | refine kA6 ?_ _ | refine kA8 ?_ | refine kA7 ?_ _)); exact a2.out) hb)
            have n6_ := kA9 (below_step (by repeat (first | (with_reducible first | exact HB.out | apply kA5 | apply kA3 | apply kA4 | refine below_set ?_ a4.out | refine below_set ?_ a5.out) | exact HB.out)) hb)
            clear a6
            clear a7
            clear af
            clear a0
            clear a2
            clear HB
            have a6 := n0_
            have a7 := n1_
            have af := n2_
            have a9 := n3_
            have a0 := n4_
            have a2 := n5_
            have HB := n6_
            clear n0_ n1_ n2_ n3_ n4_ n5_ n6_
            clear hb au
            refine hK.out _ _ ⟨(blk_cell a0.out 0).trans rfl, (blk_cell a0.out 1).trans rfl, (blk_cell a0.out 2).trans rfl, (blk_cell a0.out 3).trans rfl, (blk_cell a0.out 4).trans rfl, (blk_cell a0.out 5).trans rfl⟩ (fun hHeld => ?_)
            clear hK K
            refine norm_ (a' := ?_) ?_ ?_
            rotate_left
            ·show Act.put _ (some 12) _ = _
             simp only [Act.put, sA0, sA1, sA2, i64_w, i32_w]
             rfl
            exact norm_ (by first | (simp only [putAll, Act.put, sA0, sA1, sA2]; done) | (simp only [putAll, Act.put, sA0, sA1, sA2]; rfl)) (hJ2_5_8_9 (ag, ah, ae, ar, ad) _ ⟨hHeld, (by (with_reducible repeat (first | apply kA0 | apply kA1 | apply kA2)); exact a6.out), (by (with_reducible repeat (first | apply kA0 | apply kA1 | apply kA2)); exact a7.out), (by (with_reducible repeat (first | apply kA0 | apply kA1 | apply kA2)); exact Kd.R_mono af.out (fun _ hk => hk.2)), (by (with_reducible repeat (first | apply kA0 | apply kA1 | apply kA2)); exact Kd.R_mono a9.out (fun _ hk => hk.2)), (by (with_reducible repeat (first | refine kA6 ?_ _ | refine kA8 ?_ | refine kA7 ?_ _)); exact a0.out), (by (with_reducible repeat (first | refine kA6 ?_ _ | refine kA8 ?_ | refine kA7 ?_ _)); exact a2.out), (by repeat (first | (with_reducible first | exact HB.out | apply kA5 | apply kA3 | apply kA4 | refine below_set ?_ a4.out | refine below_set ?_ a5.out) | exact HB.out))⟩)
           ·skip
            refine Kd.R_lit_step (Kd.int .i64) _ 3 ?hg (N := 16) ?hd (xs := ([] : List Int)) (inner := []) (ok := fun _ => True) (okp := fun _ => True) ?hr ?hp (fun _ hk => hk) trivial (Below.refl _ _) (Nat.le_refl _) (by simp) ?_; (case hd => rfl); (case hg => rfl); (case hr => first | (go_simp; done) | (go_simp; rfl)); (case hp => exact (Reps.none _ _))
            intro ac w14 au hb hg_ hnew_
            clear hg_ hnew_
            (first | rw [← ax.out] at au | (simp only [Int.reduceToNat] at au; rw [← ax.out] at au))
            have n0_ := kA9 (Kd.R_below (by (with_reducible repeat (first | apply kA0 | apply kA1 | apply kA2)); exact a6.out) hb)
            have n1_ := kA9 (Kd.R_below (by (with_reducible repeat (first | apply kA0 | apply kA1 | apply kA2)); exact a7.out) hb)
            have n2_ := kA9 (Kd.R_elder' (by (with_reducible repeat (first | apply kA0 | apply kA1 | apply kA2)); exact af.out) (Kd.R_base au) hb)
            have n3_ := kA9 (Kd.R_lower (Kd.R_new' au (Kd.R_lt (by (with_reducible repeat (first | apply kA0 | apply kA1 | apply kA2)); exact af.out))) (below_size (by repeat (first | (with_reducible first | exact HB.out | apply kA5 | apply kA3 | apply kA4 | refine below_set ?_ a4.out | refine below_set ?_ a5.out) | exact HB.out))))
            have n4_ := kA9 (blk_below (g := a1) (o := .cells #[.slice A0_0 l0_0.length c0_0, .slice A0_1 l0_1.length c0_1, .int .i64 a0_2, .slice A0_3 l0_3.length c0_3, .slice A0_4 l0_4.length c0_4, .slice A0_5 l0_5.length c0_5] 34 (0, 0)) (by (with_reducible repeat (first | refine kA6 ?_ _ | refine kA8 ?_ | refine kA7 ?_ _)); exact a0.out) hb)
            have n5_ := kA9 (blk_below (g := a3) (o := .cells #[.slice none 0 0, .slice none 0 0, .int .i64 0, .slice none 0 0, .slice none 0 0, .slice none 0 0] 34 (0, 0)) (by (with_reducible repeat (first | refine kA6 ?_ _ | refine kA8 ?_ | refine kA7 ?_ _)); exact a2.out) hb)
            have n6_ := kA9 (below_step (by repeat (first | (with_reducible first | exact HB.out | apply kA5 | apply kA3 | apply kA4 | refine below_set ?_ a4.out | refine below_set ?_ a5.out) | exact HB.out)) hb)
            clear a6
            clear a7
            clear af
            clear a0
            clear a2
            clear HB
            have a6 := n0_
            have a7 := n1_
            have af := n2_
            have a8 := n3_
            have a0 := n4_
            have a2 := n5_
            have HB := n6_
            clear n0_ n1_ n2_ n3_ n4_ n5_ n6_
            clear hb au
            refine hK.out _ _ ⟨(blk_cell a0.out 0).trans rfl, (blk_cell a0.out 1).trans rfl, (blk_cell a0.out 2).trans rfl, (blk_cell a0.out 3).trans rfl, (blk_cell a0.out 4).trans rfl, (blk_cell a0.out 5).trans rfl⟩ (fun hHeld => ?_)
            clear hK K
            refine norm_ (a' := ?_) ?_ ?_
            rotate_left
            ·show Act.put _ (some 16) _ = _
             simp only [Act.put, sA0, sA1, sA2, i64_w, i32_w]
             rfl
            exact norm_ (by first | (simp only [putAll, Act.put, sA0, sA1, sA2]; done) | (simp only [putAll, Act.put, sA0, sA1, sA2]; rfl)) (hJ2_5_8_13 (ag, ah, ae, ar, ac) _ ⟨hHeld, (by (with_reducible repeat (first | apply kA0 | apply kA1 | apply kA2)); exact a6.out), (by (with_reducible repeat (first | apply kA0 | apply kA1 | apply kA2)); exact a7.out), (by (with_reducible repeat (first | apply kA0 | apply kA1 | apply kA2)); exact Kd.R_mono af.out (fun _ hk => hk.2)), (by (with_reducible repeat (first | apply kA0 | apply kA1 | apply kA2)); exact Kd.R_mono a8.out (fun _ hk => hk.2)), (by (with_reducible repeat (first | refine kA6 ?_ _ | refine kA8 ?_ | refine kA7 ?_ _)); exact a0.out), (by (with_reducible repeat (first | refine kA6 ?_ _ | refine kA8 ?_ | refine kA7 ?_ _)); exact a2.out), (by repeat (first | (with_reducible first | exact HB.out | apply kA5 | apply kA3 | apply kA4 | refine below_set ?_ a4.out | refine below_set ?_ a5.out) | exact HB.out))⟩)
         ·skip
          rintro ⟨ag, ah, ae, ad, ac⟩ w16 ⟨hS_, h0_, h1_, h2_, h3_, h4_, h5_, h6_, h7_⟩
          have n0_ : Aside0 (Kd.R Kd.string 9 w16 w.heap.size (fun _ => True) ag aj) := ⟨h0_⟩
          have n1_ : Aside0 (Kd.R k135 135 w16 w.heap.size (fun _ => True) ah ak) := ⟨h1_⟩
          have n2_ : Aside0 (Kd.R (Kd.int .i64) 3 w16 w.heap.size (fun k_ => some k_ ≠ (ad : Value).ownBlock ∧ some k_ ≠ (ac : Value).ownBlock) ae av) := ⟨h2_⟩
          have n3_ : Aside0 (Kd.R (Kd.int .i64) 3 w16 w.heap.size (fun k_ => some k_ ≠ (ae : Value).ownBlock ∧ some k_ ≠ (ac : Value).ownBlock) ad aq) := ⟨h3_⟩
          have n4_ : Aside0 (Kd.R (Kd.int .i64) 3 w16 w.heap.size (fun k_ => some k_ ≠ (ae : Value).ownBlock ∧ some k_ ≠ (ad : Value).ownBlock) ac am) := ⟨h4_⟩
          have n5_ : Aside0 (w16.heap[a1]? = some (.cells #[.slice A0_0 l0_0.length c0_0, .slice A0_1 l0_1.length c0_1, .int .i64 a0_2, .slice A0_3 l0_3.length c0_3, .slice A0_4 l0_4.length c0_4, .slice A0_5 l0_5.length c0_5] 34 (0, 0))) := ⟨h5_⟩
          have n6_ : Aside0 (w16.heap[a3]? = some (.cells #[.slice none 0 0, .slice none 0 0, .int .i64 0, .slice none 0 0, .slice none 0 0, .slice none 0 0] 34 (0, 0))) := ⟨h6_⟩
          have n7_ : Aside0 (Below w.heap.size w w16) := ⟨h7_⟩
          clear a0
          clear a2
          clear HB
          clear h0_ h1_ h2_ h3_ h4_ h5_ h6_ h7_
          have a6 := n0_
          have a7 := n1_
          have aa := n2_
          have a9 := n3_
          have a8 := n4_
          have a0 := n5_
          have a2 := n6_
          have HB := n7_
          clear n0_ n1_ n2_ n3_ n4_ n5_ n6_ n7_
          have hHeld : w16.cell? ⟨a1, 0, none⟩ = some (.slice A0_0 l0_0.length c0_0) ∧ w16.cell? ⟨a1, 1, none⟩ = some (.slice A0_1 l0_1.length c0_1) ∧ w16.cell? ⟨a1, 2, none⟩ = some (.int .i64 a0_2) ∧ w16.cell? ⟨a1, 3, none⟩ = some (.slice A0_3 l0_3.length c0_3) ∧ w16.cell? ⟨a1, 4, none⟩ = some (.slice A0_4 l0_4.length c0_4) ∧ w16.cell? ⟨a1, 5, none⟩ = some (.slice A0_5 l0_5.length c0_5) := hS_
          refine norm_ (a' := ?_) ?_ ?_
          rotate_left
          ·simp only [putAll, Act.put, sA0, sA1, sA2]
           rfl
          refine one_ (i := 8) (N := some 11) #[true, true, true, true, true, true, true, true, true, true, true, true, false, true, true, true, false, false, false] rfl rfl (one_of HT_.out (by kernel_rfl)) (by decide) (fun K hK => ?_)
          refine Kd.R_append_rows_step (Kd.int .i64) (w0 := w) w.heap.size (by rfl) (.tmp 8) (.tmp 10) 26 3 (.int .i64 0) 8 rfl Try.underlying26 info3 rfl (by decide) (by omega) ae av l0_3 _ _ _ (fun k_ => some k_ ≠ (ad : Value).ownBlock ∧ some k_ ≠ (ac : Value).ownBlock) (fun _ => False) rfl rfl ?aO ?aR (fun _ _ h => h) (fun _ h => h.elim) ?aF ?aB ?aS ?aL ?_
          (case aR => repeat (first | exact (Kd.C_below c9.out HB.out) | (with_reducible refine Kd.C_alloc ?_ _) | (with_reducible refine Kd.C_drewN ?_ _) | (with_reducible refine Kd.C_drew ?_)))
          (case aB => exact (by repeat (first | (with_reducible first | exact HB.out | apply kA5 | apply kA3 | apply kA4 | refine below_set ?_ a4.out | refine below_set ?_ a5.out) | exact HB.out)))
          (case aF => exact (fun k_ hk => ⟨Kd.fresh' (Kd.R_lt (by (with_reducible repeat (first | apply kA0 | apply kA1 | apply kA2)); exact a9.out)) k_ hk, Kd.fresh' (Kd.R_lt (by (with_reducible repeat (first | apply kA0 | apply kA1 | apply kA2)); exact a8.out)) k_ hk⟩))
          (case aO => exact (by (with_reducible repeat (first | apply kA0 | apply kA1 | apply kA2)); exact aa.out))
          (case aS => exact (below_size (by repeat (first | (with_reducible first | exact HB.out | apply kA5 | apply kA3 | apply kA4 | refine below_set ?_ a4.out | refine below_set ?_ a5.out) | exact HB.out))))
          (case aL => have := cb.out; omega)
          intro ar w17 ho hb hg hat
          rw [← ca.out] at ho
          have n0_ := kA9 (blk_grown (g := a1) (o := .cells #[.slice A0_0 l0_0.length c0_0, .slice A0_1 l0_1.length c0_1, .int .i64 a0_2, .slice A0_3 l0_3.length c0_3, .slice A0_4 l0_4.length c0_4, .slice A0_5 l0_5.length c0_5] 34 (0, 0)) (by (with_reducible repeat (first | refine kA6 ?_ _ | refine kA8 ?_ | refine kA7 ?_ _)); exact a0.out) hg (Kd.R_ne aa.out a0.out (by decide)))
          have n1_ := kA9 (blk_grown (g := a3) (o := .cells #[.slice none 0 0, .slice none 0 0, .int .i64 0, .slice none 0 0, .slice none 0 0, .slice none 0 0] 34 (0, 0)) (by (with_reducible repeat (first | refine kA6 ?_ _ | refine kA8 ?_ | refine kA7 ?_ _)); exact a2.out) hg (Kd.R_ne aa.out a2.out (by decide)))
          have n2_ := kA9 (Kd.R_over' (by (with_reducible repeat (first | apply kA0 | apply kA1 | apply kA2)); exact a6.out) (Kd.R_typed (by (with_reducible repeat (first | apply kA0 | apply kA1 | apply kA2)); exact aa.out)) (by decide) hg)
          have n3_ := kA9 (Kd.R_over' (by (with_reducible repeat (first | apply kA0 | apply kA1 | apply kA2)); exact a7.out) (Kd.R_typed (by (with_reducible repeat (first | apply kA0 | apply kA1 | apply kA2)); exact aa.out)) (by decide) hg)
          have n4_ := kA9 (Kd.R_after (ok := (fun k_ => some k_ ≠ (ac : Value).ownBlock)) (by (with_reducible repeat (first | apply kA0 | apply kA1 | apply kA2)); exact Kd.R_mono a9.out (fun _ hk => ⟨hk.2, hk.1⟩)) hg hat)
          have n5_ := kA9 (Kd.R_after (ok := (fun k_ => some k_ ≠ (ad : Value).ownBlock)) (by (with_reducible repeat (first | apply kA0 | apply kA1 | apply kA2)); exact Kd.R_mono a8.out (fun _ hk => ⟨hk.2, hk.1⟩)) hg hat)
          have n6_ := kA9 (hb)
          have n7_ := kA9 (ho)
          clear a0
          clear a2
          clear a6
          clear a7
          clear a9
          clear a8
          clear HB
          clear aa
          have a0 := n0_
          have a2 := n1_
          have a6 := n2_
          have a7 := n3_
          have a9 := n4_
          have a8 := n5_
          have HB := n6_
          have af := n7_
          clear n0_ n1_ n2_ n3_ n4_ n5_ n6_ n7_
          clear ho hb hg hat
          refine hK.out _ _ ⟨(blk_cell a0.out 0).trans rfl, (blk_cell a0.out 1).trans rfl, (blk_cell a0.out 2).trans rfl, (blk_cell a0.out 3).trans rfl, (blk_cell a0.out 4).trans rfl, (blk_cell a0.out 5).trans rfl⟩ (fun hHeld => ?_)
          clear hK K
          refine norm_ (a' := ?_) ?_ ?_
          rotate_left
          ·show Act.put _ (some 11) _ = _
           simp only [Act.put, sA0, sA1, sA2, i64_w, i32_w]
           rfl
          exact norm_ (by first | (simp only [putAll, Act.put, sA0, sA1, sA2]; done) | (simp only [putAll, Act.put, sA0, sA1, sA2]; rfl)) (ba (ag, ah, ae, ar, ad, ac) _ ⟨hHeld, (by (with_reducible repeat (first | apply kA0 | apply kA1 | apply kA2)); exact a6.out), (by (with_reducible repeat (first | apply kA0 | apply kA1 | apply kA2)); exact a7.out), (by (with_reducible repeat (first | apply kA0 | apply kA1 | apply kA2)); exact af.out), (by (with_reducible repeat (first | apply kA0 | apply kA1 | apply kA2)); exact Kd.R_mono a9.out (fun _ hk => ⟨hk.2, hk.1⟩)), (by (with_reducible repeat (first | apply kA0 | apply kA1 | apply kA2)); exact Kd.R_mono a8.out (fun _ hk => ⟨hk.2, hk.1⟩)), (by (with_reducible repeat (first | refine kA6 ?_ _ | refine kA8 ?_ | refine kA7 ?_ _)); exact a0.out), (by (with_reducible repeat (first | refine kA6 ?_ _ | refine kA8 ?_ | refine kA7 ?_ _)); exact a2.out), (by repeat (first | (with_reducible first | exact HB.out | apply kA5 | apply kA3 | apply kA4 | refine below_set ?_ a4.out | refine below_set ?_ a5.out) | exact HB.out))⟩)
        ·skip
         rintro ⟨ag, ah, ae, ar, ac⟩ w15 ⟨hS_, h0_, h1_, h2_, h3_, h4_, h5_, h6_⟩
         have n0_ : Aside0 (Kd.R Kd.string 9 w15 w.heap.size (fun _ => True) ag aj) := ⟨h0_⟩
         have n1_ : Aside0 (Kd.R k135 135 w15 w.heap.size (fun _ => True) ah ak) := ⟨h1_⟩
         have n2_ : Aside0 (Kd.R (Kd.int .i64) 3 w15 w.heap.size (fun k_ => some k_ ≠ (ac : Value).ownBlock) ar az) := ⟨h2_⟩
         have n3_ : Aside0 (Kd.R (Kd.int .i64) 3 w15 w.heap.size (fun k_ => some k_ ≠ (ar : Value).ownBlock) ac am) := ⟨h3_⟩
         have n4_ : Aside0 (w15.heap[a1]? = some (.cells #[.slice A0_0 l0_0.length c0_0, .slice A0_1 l0_1.length c0_1, .int .i64 a0_2, .slice A0_3 l0_3.length c0_3, .slice A0_4 l0_4.length c0_4, .slice A0_5 l0_5.length c0_5] 34 (0, 0))) := ⟨h4_⟩
         have n5_ : Aside0 (w15.heap[a3]? = some (.cells #[.slice none 0 0, .slice none 0 0, .int .i64 0, .slice none 0 0, .slice none 0 0, .slice none 0 0] 34 (0, 0))) := ⟨h5_⟩
         have n6_ : Aside0 (Below w.heap.size w w15) := ⟨h6_⟩
         clear a0
         clear a2
         clear HB
         clear h0_ h1_ h2_ h3_ h4_ h5_ h6_
         have a6 := n0_
         have a7 := n1_
         have af := n2_
         have a8 := n3_
         have a0 := n4_
         have a2 := n5_
         have HB := n6_
         clear n0_ n1_ n2_ n3_ n4_ n5_ n6_
         have hHeld : w15.cell? ⟨a1, 0, none⟩ = some (.slice A0_0 l0_0.length c0_0) ∧ w15.cell? ⟨a1, 1, none⟩ = some (.slice A0_1 l0_1.length c0_1) ∧ w15.cell? ⟨a1, 2, none⟩ = some (.int .i64 a0_2) ∧ w15.cell? ⟨a1, 3, none⟩ = some (.slice A0_3 l0_3.length c0_3) ∧ w15.cell? ⟨a1, 4, none⟩ = some (.slice A0_4 l0_4.length c0_4) ∧ w15.cell? ⟨a1, 5, none⟩ = some (.slice A0_5 l0_5.length c0_5) := hS_
         refine norm_ (a' := ?_) ?_ ?_
         rotate_left
         ·simp only [putAll, Act.put, sA0, sA1, sA2]
          rfl
         refine one_ (i := 9) (N := some 12) #[true, true, true, true, true, true, true, true, true, true, true, true, false, true, true, true, false, false, false] rfl rfl (one_of HT_.out (by kernel_rfl)) (by decide) (fun K hK => ?_)
         refine Kd.R_lit_step (Kd.int .i64) _ 3 ?hg (N := 12) ?hd (xs := ([] : List Int)) (inner := []) (ok := fun _ => True) (okp := fun _ => True) ?hr ?hp (fun _ hk => hk) trivial (Below.refl _ _) (Nat.le_refl _) (by simp) ?_; (case hd => rfl); (case hg => rfl); (case hr => first | (go_simp; done) | (go_simp; rfl)); (case hp => exact (Reps.none _ _))
         intro ad w16 b5 hb hg_ hnew_
         clear hg_ hnew_
         (first | rw [← ay.out] at b5 | (simp only [Int.reduceToNat] at b5; rw [← ay.out] at b5))
         have n0_ := kA9 (Kd.R_below (by (with_reducible repeat (first | apply kA0 | apply kA1 | apply kA2)); exact a6.out) hb)
         have n1_ := kA9 (Kd.R_below (by (with_reducible repeat (first | apply kA0 | apply kA1 | apply kA2)); exact a7.out) hb)
         have n2_ := kA9 (Kd.R_elder' (by (with_reducible repeat (first | apply kA0 | apply kA1 | apply kA2)); exact af.out) (Kd.R_base b5) hb)
         have n3_ := kA9 (Kd.R_elder' (by (with_reducible repeat (first | apply kA0 | apply kA1 | apply kA2)); exact a8.out) (Kd.R_base b5) hb)
         have n4_ := kA9 (Kd.R_lower (Kd.R_new' (Kd.R_new' b5 (Kd.R_lt (by (with_reducible repeat (first | apply kA0 | apply kA1 | apply kA2)); exact af.out))) (Kd.R_lt (by (with_reducible repeat (first | apply kA0 | apply kA1 | apply kA2)); exact a8.out))) (below_size (by repeat (first | (with_reducible first | exact HB.out | apply kA5 | apply kA3 | apply kA4 | refine below_set ?_ a4.out | refine below_set ?_ a5.out) | exact HB.out))))
         have n5_ := kA9 (blk_below (g := a1) (o := .cells #[.slice A0_0 l0_0.length c0_0, .slice A0_1 l0_1.length c0_1, .int .i64 a0_2, .slice A0_3 l0_3.length c0_3, .slice A0_4 l0_4.length c0_4, .slice A0_5 l0_5.length c0_5] 34 (0, 0)) (by (with_reducible repeat (first | refine kA6 ?_ _ | refine kA8 ?_ | refine kA7 ?_ _)); exact a0.out) hb)
         have n6_ := kA9 (blk_below (g := a3) (o := .cells #[.slice none 0 0, .slice none 0 0, .int .i64 0, .slice none 0 0, .slice none 0 0, .slice none 0 0] 34 (0, 0)) (by (with_reducible repeat (first | refine kA6 ?_ _ | refine kA8 ?_ | refine kA7 ?_ _)); exact a2.out) hb)
         have n7_ := kA9 (below_step (by repeat (first | (with_reducible first | exact HB.out | apply kA5 | apply kA3 | apply kA4 | refine below_set ?_ a4.out | refine below_set ?_ a5.out) | exact HB.out)) hb)
         clear a6
         clear a7
         clear af
         clear a8
         clear a0
         clear a2
         clear HB
         have a6 := n0_
         have a7 := n1_
         have af := n2_
         have a8 := n3_
         have a9 := n4_
         have a0 := n5_
         have a2 := n6_
         have HB := n7_
         clear n0_ n1_ n2_ n3_ n4_ n5_ n6_ n7_
         clear hb b5
         refine hK.out _ _ ⟨(blk_cell a0.out 0).trans rfl, (blk_cell a0.out 1).trans rfl, (blk_cell a0.out 2).trans rfl, (blk_cell a0.out 3).trans rfl, (blk_cell a0.out 4).trans rfl, (blk_cell a0.out 5).trans rfl⟩ (fun hHeld => ?_)
         clear hK K
         refine norm_ (a' := ?_) ?_ ?_
         rotate_left
         ·show Act.put _ (some 12) _ = _
          simp only [Act.put, sA0, sA1, sA2, i64_w, i32_w]
          rfl
         exact norm_ (by first | (simp only [putAll, Act.put, sA0, sA1, sA2]; done) | (simp only [putAll, Act.put, sA0, sA1, sA2]; rfl)) (ba (ag, ah, ae, ar, ad, ac) _ ⟨hHeld, (by (with_reducible repeat (first | apply kA0 | apply kA1 | apply kA2)); exact a6.out), (by (with_reducible repeat (first | apply kA0 | apply kA1 | apply kA2)); exact a7.out), (by (with_reducible repeat (first | apply kA0 | apply kA1 | apply kA2)); exact Kd.R_mono af.out (fun _ hk => ⟨hk.2, hk.1⟩)), (by (with_reducible repeat (first | apply kA0 | apply kA1 | apply kA2)); exact Kd.R_mono a9.out (fun _ hk => ⟨hk.1.2, hk.2⟩)), (by (with_reducible repeat (first | apply kA0 | apply kA1 | apply kA2)); exact a8.out), (by (with_reducible repeat (first | refine kA6 ?_ _ | refine kA8 ?_ | refine kA7 ?_ _)); exact a0.out), (by (with_reducible repeat (first | refine kA6 ?_ _ | refine kA8 ?_ | refine kA7 ?_ _)); exact a2.out), (by repeat (first | (with_reducible first | exact HB.out | apply kA5 | apply kA3 | apply kA4 | refine below_set ?_ a4.out | refine below_set ?_ a5.out) | exact HB.out))⟩)
       ·skip
        rintro ⟨ag, ah, ae, ar, ad⟩ w15 ⟨hS_, h0_, h1_, h2_, h3_, h4_, h5_, h6_⟩
        have n0_ : Aside0 (Kd.R Kd.string 9 w15 w.heap.size (fun _ => True) ag aj) := ⟨h0_⟩
        have n1_ : Aside0 (Kd.R k135 135 w15 w.heap.size (fun _ => True) ah ak) := ⟨h1_⟩
        have n2_ : Aside0 (Kd.R (Kd.int .i64) 3 w15 w.heap.size (fun k_ => some k_ ≠ (ad : Value).ownBlock) ar az) := ⟨h2_⟩
        have n3_ : Aside0 (Kd.R (Kd.int .i64) 3 w15 w.heap.size (fun k_ => some k_ ≠ (ar : Value).ownBlock) ad aq) := ⟨h3_⟩
        have n4_ : Aside0 (w15.heap[a1]? = some (.cells #[.slice A0_0 l0_0.length c0_0, .slice A0_1 l0_1.length c0_1, .int .i64 a0_2, .slice A0_3 l0_3.length c0_3, .slice A0_4 l0_4.length c0_4, .slice A0_5 l0_5.length c0_5] 34 (0, 0))) := ⟨h4_⟩
        have n5_ : Aside0 (w15.heap[a3]? = some (.cells #[.slice none 0 0, .slice none 0 0, .int .i64 0, .slice none 0 0, .slice none 0 0, .slice none 0 0] 34 (0, 0))) := ⟨h5_⟩
        have n6_ : Aside0 (Below w.heap.size w w15) := ⟨h6_⟩
        clear a0
        clear a2
        clear HB
        clear h0_ h1_ h2_ h3_ h4_ h5_ h6_
        have a6 := n0_
        have a7 := n1_
        have af := n2_
        have a9 := n3_
        have a0 := n4_
        have a2 := n5_
        have HB := n6_
        clear n0_ n1_ n2_ n3_ n4_ n5_ n6_
        have hHeld : w15.cell? ⟨a1, 0, none⟩ = some (.slice A0_0 l0_0.length c0_0) ∧ w15.cell? ⟨a1, 1, none⟩ = some (.slice A0_1 l0_1.length c0_1) ∧ w15.cell? ⟨a1, 2, none⟩ = some (.int .i64 a0_2) ∧ w15.cell? ⟨a1, 3, none⟩ = some (.slice A0_3 l0_3.length c0_3) ∧ w15.cell? ⟨a1, 4, none⟩ = some (.slice A0_4 l0_4.length c0_4) ∧ w15.cell? ⟨a1, 5, none⟩ = some (.slice A0_5 l0_5.length c0_5) := hS_
        refine norm_ (a' := ?_) ?_ ?_
        rotate_left
        ·simp only [putAll, Act.put, sA0, sA1, sA2]
         rfl
        refine two_ (i := 12) (j := 13) (Ni := some 15) (Nj := some 16) #[true, true, true, true, true, true, true, true, true, true, true, true, true, false, true, true, false, false, false] #[true, true, true, true, true, true, true, true, true, true, true, true, false, true, true, true, false, false, false] rfl rfl rfl rfl (two_of HT_.out (by kernel_rfl)) (by decide) (by decide) (fun K hK => ?_) (fun K hK => ?_)
        ·skip
         refine Kd.R_append_rows_step (Kd.int .i64) (w0 := w) w.heap.size (by rfl) (.tmp 12) (.tmp 14) 26 3 (.int .i64 0) 8 rfl Try.underlying26 info3 rfl (by decide) (by omega) ad aq l0_4 _ _ _ (fun k_ => some k_ ≠ (ar : Value).ownBlock) (fun _ => False) rfl rfl ?aO ?aR (fun _ _ h => h) (fun _ h => h.elim) ?aF ?aB ?aS ?aL ?_
         (case aR => repeat (first | exact (Kd.C_below HR0_4.out HB.out) | (with_reducible refine Kd.C_alloc ?_ _) | (with_reducible refine Kd.C_drewN ?_ _) | (with_reducible refine Kd.C_drew ?_)))
         (case aB => exact (by repeat (first | (with_reducible first | exact HB.out | apply kA5 | apply kA3 | apply kA4 | refine below_set ?_ a4.out | refine below_set ?_ a5.out) | exact HB.out)))
         (case aF => exact (fun k_ hk => Kd.fresh' (Kd.R_lt (by (with_reducible repeat (first | apply kA0 | apply kA1 | apply kA2)); exact af.out)) k_ hk))
         (case aO => exact (by (with_reducible repeat (first | apply kA0 | apply kA1 | apply kA2)); exact a9.out))
         (case aS => exact (below_size (by repeat (first | (with_reducible first | exact HB.out | apply kA5 | apply kA3 | apply kA4 | refine below_set ?_ a4.out | refine below_set ?_ a5.out) | exact HB.out))))
         (case aL => have := LMc4.out; omega)
         intro b8 w16 ho hb hg hat
         rw [← Ny144.out] at ho
         have n0_ := kA9 (blk_grown (g := a1) (o := .cells #[.slice A0_0 l0_0.length c0_0, .slice A0_1 l0_1.length c0_1, .int .i64 a0_2, .slice A0_3 l0_3.length c0_3, .slice A0_4 l0_4.length c0_4, .slice A0_5 l0_5.length c0_5] 34 (0, 0)) (by (with_reducible repeat (first | refine kA6 ?_ _ | refine kA8 ?_ | refine kA7 ?_ _)); exact a0.out) hg (Kd.R_ne a9.out a0.out (by decide)))
         have n1_ := kA9 (blk_grown (g := a3) (o := .cells #[.slice none 0 0, .slice none 0 0, .int .i64 0, .slice none 0 0, .slice none 0 0, .slice none 0 0] 34 (0, 0)) (by (with_reducible repeat (first | refine kA6 ?_ _ | refine kA8 ?_ | refine kA7 ?_ _)); exact a2.out) hg (Kd.R_ne a9.out a2.out (by decide)))
         have n2_ := kA9 (Kd.R_over' (by (with_reducible repeat (first | apply kA0 | apply kA1 | apply kA2)); exact a6.out) (Kd.R_typed (by (with_reducible repeat (first | apply kA0 | apply kA1 | apply kA2)); exact a9.out)) (by decide) hg)
         have n3_ := kA9 (Kd.R_over' (by (with_reducible repeat (first | apply kA0 | apply kA1 | apply kA2)); exact a7.out) (Kd.R_typed (by (with_reducible repeat (first | apply kA0 | apply kA1 | apply kA2)); exact a9.out)) (by decide) hg)
         have n4_ := kA9 (Kd.R_after (ok := (fun _ => True)) (by (with_reducible repeat (first | apply kA0 | apply kA1 | apply kA2)); exact Kd.R_mono af.out (fun _ hk => ⟨trivial, hk⟩)) hg hat)
         have n5_ := kA9 (hb)
         have n6_ := kA9 (ho)
         clear a0
         clear a2
         clear a6
         clear a7
         clear af
         clear HB
         clear a9
         have a0 := n0_
         have a2 := n1_
         have a6 := n2_
         have a7 := n3_
         have af := n4_
         have HB := n5_
         have b2 := n6_
         clear n0_ n1_ n2_ n3_ n4_ n5_ n6_
         clear ho hb hg hat
         refine hK.out _ _ ⟨(blk_cell a0.out 0).trans rfl, (blk_cell a0.out 1).trans rfl, (blk_cell a0.out 2).trans rfl, (blk_cell a0.out 3).trans rfl, (blk_cell a0.out 4).trans rfl, (blk_cell a0.out 5).trans rfl⟩ (fun hHeld => ?_)
         clear hK K
         refine norm_ (a' := ?_) ?_ ?_
         rotate_left
         ·show Act.put _ (some 15) _ = _
          simp only [Act.put, sA0, sA1, sA2, i64_w, i32_w]
          rfl
         exact norm_ (by first | (simp only [putAll, Act.put, sA0, sA1, sA2]; done) | (simp only [putAll, Act.put, sA0, sA1, sA2]; rfl)) (hJ2_5_8_9_12 (ag, ah, ae, ar, ad, b8) _ ⟨hHeld, (by (with_reducible repeat (first | apply kA0 | apply kA1 | apply kA2)); exact a6.out), (by (with_reducible repeat (first | apply kA0 | apply kA1 | apply kA2)); exact a7.out), (by (with_reducible repeat (first | apply kA0 | apply kA1 | apply kA2)); exact Kd.R_mono af.out (fun _ hk => hk.2)), (by (with_reducible repeat (first | apply kA0 | apply kA1 | apply kA2)); exact b2.out), (by (with_reducible repeat (first | refine kA6 ?_ _ | refine kA8 ?_ | refine kA7 ?_ _)); exact a0.out), (by (with_reducible repeat (first | refine kA6 ?_ _ | refine kA8 ?_ | refine kA7 ?_ _)); exact a2.out), (by repeat (first | (with_reducible first | exact HB.out | apply kA5 | apply kA3 | apply kA4 | refine below_set ?_ a4.out | refine below_set ?_ a5.out) | exact HB.out))⟩)
        ·skip
         refine Kd.R_lit_step (Kd.int .i64) _ 3 ?hg (N := 16) ?hd (xs := ([] : List Int)) (inner := []) (ok := fun _ => True) (okp := fun _ => True) ?hr ?hp (fun _ hk => hk) trivial (Below.refl _ _) (Nat.le_refl _) (by simp) ?_; (case hd => rfl); (case hg => rfl); (case hr => first | (go_simp; done) | (go_simp; rfl)); (case hp => exact (Reps.none _ _))
         intro ac w16 b5 hb hg_ hnew_
         clear hg_ hnew_
         (first | rw [← ax.out] at b5 | (simp only [Int.reduceToNat] at b5; rw [← ax.out] at b5))
         have n0_ := kA9 (Kd.R_below (by (with_reducible repeat (first | apply kA0 | apply kA1 | apply kA2)); exact a6.out) hb)
         have n1_ := kA9 (Kd.R_below (by (with_reducible repeat (first | apply kA0 | apply kA1 | apply kA2)); exact a7.out) hb)
         have n2_ := kA9 (Kd.R_elder' (by (with_reducible repeat (first | apply kA0 | apply kA1 | apply kA2)); exact af.out) (Kd.R_base b5) hb)
         have n3_ := kA9 (Kd.R_elder' (by (with_reducible repeat (first | apply kA0 | apply kA1 | apply kA2)); exact a9.out) (Kd.R_base b5) hb)
         have n4_ := kA9 (Kd.R_lower (Kd.R_new' (Kd.R_new' b5 (Kd.R_lt (by (with_reducible repeat (first | apply kA0 | apply kA1 | apply kA2)); exact af.out))) (Kd.R_lt (by (with_reducible repeat (first | apply kA0 | apply kA1 | apply kA2)); exact a9.out))) (below_size (by repeat (first | (with_reducible first | exact HB.out | apply kA5 | apply kA3 | apply kA4 | refine below_set ?_ a4.out | refine below_set ?_ a5.out) | exact HB.out))))
         have n5_ := kA9 (blk_below (g := a1) (o := .cells #[.slice A0_0 l0_0.length c0_0, .slice A0_1 l0_1.length c0_1, .int .i64 a0_2, .slice A0_3 l0_3.length c0_3, .slice A0_4 l0_4.length c0_4, .slice A0_5 l0_5.length c0_5] 34 (0, 0)) (by (with_reducible repeat (first | refine kA6 ?_ _ | refine kA8 ?_ | refine kA7 ?_ _)); exact a0.out) hb)
         have n6_ := kA9 (blk_below (g := a3) (o := .cells #[.slice none 0 0, .slice none 0 0, .int .i64 0, .slice none 0 0, .slice none 0 0, .slice none 0 0] 34 (0, 0)) (by (with_reducible repeat (first | refine kA6 ?_ _ | refine kA8 ?_ | refine kA7 ?_ _)); exact a2.out) hb)
         have n7_ := kA9 (below_step (by repeat (first | (with_reducible first | exact HB.out | apply kA5 | apply kA3 | apply kA4 | refine below_set ?_ a4.out | refine below_set ?_ a5.out) | exact HB.out)) hb)
         clear a6
         clear a7
         clear af
         clear a9
         clear a0
         clear a2
         clear HB
         have a6 := n0_
         have a7 := n1_
         have af := n2_
         have a9 := n3_
         have a8 := n4_
         have a0 := n5_
         have a2 := n6_
         have HB := n7_
         clear n0_ n1_ n2_ n3_ n4_ n5_ n6_ n7_
         clear hb b5
         refine hK.out _ _ ⟨(blk_cell a0.out 0).trans rfl, (blk_cell a0.out 1).trans rfl, (blk_cell a0.out 2).trans rfl, (blk_cell a0.out 3).trans rfl, (blk_cell a0.out 4).trans rfl, (blk_cell a0.out 5).trans rfl⟩ (fun hHeld => ?_)
         clear hK K
         refine norm_ (a' := ?_) ?_ ?_
         rotate_left
         ·show Act.put _ (some 16) _ = _
          simp only [Act.put, sA0, sA1, sA2, i64_w, i32_w]
          rfl
         exact norm_ (by first | (simp only [putAll, Act.put, sA0, sA1, sA2]; done) | (simp only [putAll, Act.put, sA0, sA1, sA2]; rfl)) (ba (ag, ah, ae, ar, ad, ac) _ ⟨hHeld, (by (with_reducible repeat (first | apply kA0 | apply kA1 | apply kA2)); exact a6.out), (by (with_reducible repeat (first | apply kA0 | apply kA1 | apply kA2)); exact a7.out), (by (with_reducible repeat (first | apply kA0 | apply kA1 | apply kA2)); exact af.out), (by (with_reducible repeat (first | apply kA0 | apply kA1 | apply kA2)); exact a9.out), (by (with_reducible repeat (first | apply kA0 | apply kA1 | apply kA2)); exact Kd.R_mono a8.out (fun _ hk => ⟨hk.1.2, hk.2⟩)), (by (with_reducible repeat (first | refine kA6 ?_ _ | refine kA8 ?_ | refine kA7 ?_ _)); exact a0.out), (by (with_reducible repeat (first | refine kA6 ?_ _ | refine kA8 ?_ | refine kA7 ?_ _)); exact a2.out), (by repeat (first | (with_reducible first | exact HB.out | apply kA5 | apply kA3 | apply kA4 | refine below_set ?_ a4.out | refine below_set ?_ a5.out) | exact HB.out))⟩)
      ·skip
       rintro ⟨ag, ah, ae, ar, ad, ac⟩ w17 ⟨hS_, h0_, h1_, h2_, h3_, h4_, h5_, h6_, h7_⟩
       have n0_ : Aside0 (Kd.R Kd.string 9 w17 w.heap.size (fun _ => True) ag aj) := ⟨h0_⟩
       have n1_ : Aside0 (Kd.R k135 135 w17 w.heap.size (fun _ => True) ah ak) := ⟨h1_⟩
       have n2_ : Aside0 (Kd.R (Kd.int .i64) 3 w17 w.heap.size (fun k_ => some k_ ≠ (ad : Value).ownBlock ∧ some k_ ≠ (ac : Value).ownBlock) ar az) := ⟨h2_⟩
       have n3_ : Aside0 (Kd.R (Kd.int .i64) 3 w17 w.heap.size (fun k_ => some k_ ≠ (ar : Value).ownBlock ∧ some k_ ≠ (ac : Value).ownBlock) ad aq) := ⟨h3_⟩
       have n4_ : Aside0 (Kd.R (Kd.int .i64) 3 w17 w.heap.size (fun k_ => some k_ ≠ (ar : Value).ownBlock ∧ some k_ ≠ (ad : Value).ownBlock) ac am) := ⟨h4_⟩
       have n5_ : Aside0 (w17.heap[a1]? = some (.cells #[.slice A0_0 l0_0.length c0_0, .slice A0_1 l0_1.length c0_1, .int .i64 a0_2, .slice A0_3 l0_3.length c0_3, .slice A0_4 l0_4.length c0_4, .slice A0_5 l0_5.length c0_5] 34 (0, 0))) := ⟨h5_⟩
       have n6_ : Aside0 (w17.heap[a3]? = some (.cells #[.slice none 0 0, .slice none 0 0, .int .i64 0, .slice none 0 0, .slice none 0 0, .slice none 0 0] 34 (0, 0))) := ⟨h6_⟩
       have n7_ : Aside0 (Below w.heap.size w w17) := ⟨h7_⟩
       clear a0
       clear a2
       clear HB
       clear h0_ h1_ h2_ h3_ h4_ h5_ h6_ h7_
       have a6 := n0_
       have a7 := n1_
       have af := n2_
       have a9 := n3_
       have a8 := n4_
       have a0 := n5_
       have a2 := n6_
       have HB := n7_
       clear n0_ n1_ n2_ n3_ n4_ n5_ n6_ n7_
       have hHeld : w17.cell? ⟨a1, 0, none⟩ = some (.slice A0_0 l0_0.length c0_0) ∧ w17.cell? ⟨a1, 1, none⟩ = some (.slice A0_1 l0_1.length c0_1) ∧ w17.cell? ⟨a1, 2, none⟩ = some (.int .i64 a0_2) ∧ w17.cell? ⟨a1, 3, none⟩ = some (.slice A0_3 l0_3.length c0_3) ∧ w17.cell? ⟨a1, 4, none⟩ = some (.slice A0_4 l0_4.length c0_4) ∧ w17.cell? ⟨a1, 5, none⟩ = some (.slice A0_5 l0_5.length c0_5) := hS_
       refine norm_ (a' := ?_) ?_ ?_
       rotate_left
       ·simp only [putAll, Act.put, sA0, sA1, sA2]
        rfl
       refine one_ (i := 12) (N := some 15) #[true, true, true, true, true, true, true, true, true, true, true, true, true, true, true, true, false, false, false] rfl rfl (one_of HT_.out (by kernel_rfl)) (by decide) (fun K hK => ?_)
       refine Kd.R_append_rows_step (Kd.int .i64) (w0 := w) w.heap.size (by rfl) (.tmp 12) (.tmp 14) 26 3 (.int .i64 0) 8 rfl Try.underlying26 info3 rfl (by decide) (by omega) ad aq l0_4 _ _ _ (fun k_ => some k_ ≠ (ar : Value).ownBlock ∧ some k_ ≠ (ac : Value).ownBlock) (fun _ => False) rfl rfl ?aO ?aR (fun _ _ h => h) (fun _ h => h.elim) ?aF ?aB ?aS ?aL ?_
       (case aR => repeat (first | exact (Kd.C_below HR0_4.out HB.out) | (with_reducible refine Kd.C_alloc ?_ _) | (with_reducible refine Kd.C_drewN ?_ _) | (with_reducible refine Kd.C_drew ?_)))
       (case aB => exact (by repeat (first | (with_reducible first | exact HB.out | apply kA5 | apply kA3 | apply kA4 | refine below_set ?_ a4.out | refine below_set ?_ a5.out) | exact HB.out)))
       (case aF => exact (fun k_ hk => ⟨Kd.fresh' (Kd.R_lt (by (with_reducible repeat (first | apply kA0 | apply kA1 | apply kA2)); exact af.out)) k_ hk, Kd.fresh' (Kd.R_lt (by (with_reducible repeat (first | apply kA0 | apply kA1 | apply kA2)); exact a8.out)) k_ hk⟩))
       (case aO => exact (by (with_reducible repeat (first | apply kA0 | apply kA1 | apply kA2)); exact a9.out))
       (case aS => exact (below_size (by repeat (first | (with_reducible first | exact HB.out | apply kA5 | apply kA3 | apply kA4 | refine below_set ?_ a4.out | refine below_set ?_ a5.out) | exact HB.out))))
       (case aL => have := LMc4.out; omega)
       intro b8 w18 ho hb hg hat
       rw [← Ny144.out] at ho
       have n0_ := kA9 (blk_grown (g := a1) (o := .cells #[.slice A0_0 l0_0.length c0_0, .slice A0_1 l0_1.length c0_1, .int .i64 a0_2, .slice A0_3 l0_3.length c0_3, .slice A0_4 l0_4.length c0_4, .slice A0_5 l0_5.length c0_5] 34 (0, 0)) (by (with_reducible repeat (first | refine kA6 ?_ _ | refine kA8 ?_ | refine kA7 ?_ _)); exact a0.out) hg (Kd.R_ne a9.out a0.out (by decide)))
       have n1_ := kA9 (blk_grown (g := a3) (o := .cells #[.slice none 0 0, .slice none 0 0, .int .i64 0, .slice none 0 0, .slice none 0 0, .slice none 0 0] 34 (0, 0)) (by (with_reducible repeat (first | refine kA6 ?_ _ | refine kA8 ?_ | refine kA7 ?_ _)); exact a2.out) hg (Kd.R_ne a9.out a2.out (by decide)))
       have n2_ := kA9 (Kd.R_over' (by (with_reducible repeat (first | apply kA0 | apply kA1 | apply kA2)); exact a6.out) (Kd.R_typed (by (with_reducible repeat (first | apply kA0 | apply kA1 | apply kA2)); exact a9.out)) (by decide) hg)
       have n3_ := kA9 (Kd.R_over' (by (with_reducible repeat (first | apply kA0 | apply kA1 | apply kA2)); exact a7.out) (Kd.R_typed (by (with_reducible repeat (first | apply kA0 | apply kA1 | apply kA2)); exact a9.out)) (by decide) hg)
       have n4_ := kA9 (Kd.R_after (ok := (fun k_ => some k_ ≠ (ac : Value).ownBlock)) (by (with_reducible repeat (first | apply kA0 | apply kA1 | apply kA2)); exact Kd.R_mono af.out (fun _ hk => ⟨hk.2, hk.1⟩)) hg hat)
       have n5_ := kA9 (Kd.R_after (ok := (fun k_ => some k_ ≠ (ar : Value).ownBlock)) (by (with_reducible repeat (first | apply kA0 | apply kA1 | apply kA2)); exact a8.out) hg hat)
       have n6_ := kA9 (hb)
       have n7_ := kA9 (ho)
       clear a0
       clear a2
       clear a6
       clear a7
       clear af
       clear a8
       clear HB
       clear a9
       have a0 := n0_
       have a2 := n1_
       have a6 := n2_
       have a7 := n3_
       have af := n4_
       have a8 := n5_
       have HB := n6_
       have b2 := n7_
       clear n0_ n1_ n2_ n3_ n4_ n5_ n6_ n7_
       clear ho hb hg hat
       refine hK.out _ _ ⟨(blk_cell a0.out 0).trans rfl, (blk_cell a0.out 1).trans rfl, (blk_cell a0.out 2).trans rfl, (blk_cell a0.out 3).trans rfl, (blk_cell a0.out 4).trans rfl, (blk_cell a0.out 5).trans rfl⟩ (fun hHeld => ?_)
       clear hK K
       refine norm_ (a' := ?_) ?_ ?_
       rotate_left
       ·show Act.put _ (some 15) _ = _
        simp only [Act.put, sA0, sA1, sA2, i64_w, i32_w]
        rfl
       exact norm_ (by first | (simp only [putAll, Act.put, sA0, sA1, sA2]; done) | (simp only [putAll, Act.put, sA0, sA1, sA2]; rfl)) (hJ2_5_8_9_12_13 (ag, ah, ae, ar, ad, b8, ac) _ ⟨hHeld, (by (with_reducible repeat (first | apply kA0 | apply kA1 | apply kA2)); exact a6.out), (by (with_reducible repeat (first | apply kA0 | apply kA1 | apply kA2)); exact a7.out), (by (with_reducible repeat (first | apply kA0 | apply kA1 | apply kA2)); exact Kd.R_mono af.out (fun _ hk => ⟨hk.2, hk.1⟩)), (by (with_reducible repeat (first | apply kA0 | apply kA1 | apply kA2)); exact b2.out), (by (with_reducible repeat (first | apply kA0 | apply kA1 | apply kA2)); exact a8.out), (by (with_reducible repeat (first | refine kA6 ?_ _ | refine kA8 ?_ | refine kA7 ?_ _)); exact a0.out), (by (with_reducible repeat (first | refine kA6 ?_ _ | refine kA8 ?_ | refine kA7 ?_ _)); exact a2.out), (by repeat (first | (with_reducible first | exact HB.out | apply kA5 | apply kA3 | apply kA4 | refine below_set ?_ a4.out | refine below_set ?_ a5.out) | exact HB.out))⟩)
     ·skip
      rintro ⟨ag, ah, ae, ar, ad, b8⟩ w16 ⟨hS_, h0_, h1_, h2_, h3_, h4_, h5_, h6_⟩
      have n0_ : Aside0 (Kd.R Kd.string 9 w16 w.heap.size (fun _ => True) ag aj) := ⟨h0_⟩
      have n1_ : Aside0 (Kd.R k135 135 w16 w.heap.size (fun _ => True) ah ak) := ⟨h1_⟩
      have n2_ : Aside0 (Kd.R (Kd.int .i64) 3 w16 w.heap.size (fun k_ => some k_ ≠ (b8 : Value).ownBlock) ar az) := ⟨h2_⟩
      have n3_ : Aside0 (Kd.R (Kd.int .i64) 3 w16 w.heap.size (fun k_ => some k_ ≠ (ar : Value).ownBlock) b8 b7) := ⟨h3_⟩
      have n4_ : Aside0 (w16.heap[a1]? = some (.cells #[.slice A0_0 l0_0.length c0_0, .slice A0_1 l0_1.length c0_1, .int .i64 a0_2, .slice A0_3 l0_3.length c0_3, .slice A0_4 l0_4.length c0_4, .slice A0_5 l0_5.length c0_5] 34 (0, 0))) := ⟨h4_⟩
      have n5_ : Aside0 (w16.heap[a3]? = some (.cells #[.slice none 0 0, .slice none 0 0, .int .i64 0, .slice none 0 0, .slice none 0 0, .slice none 0 0] 34 (0, 0))) := ⟨h5_⟩
      have n6_ : Aside0 (Below w.heap.size w w16) := ⟨h6_⟩
      clear a0
      clear a2
      clear HB
      clear h0_ h1_ h2_ h3_ h4_ h5_ h6_
      have a6 := n0_
      have a7 := n1_
      have af := n2_
      have b2 := n3_
      have a0 := n4_
      have a2 := n5_
      have HB := n6_
      clear n0_ n1_ n2_ n3_ n4_ n5_ n6_
      have hHeld : w16.cell? ⟨a1, 0, none⟩ = some (.slice A0_0 l0_0.length c0_0) ∧ w16.cell? ⟨a1, 1, none⟩ = some (.slice A0_1 l0_1.length c0_1) ∧ w16.cell? ⟨a1, 2, none⟩ = some (.int .i64 a0_2) ∧ w16.cell? ⟨a1, 3, none⟩ = some (.slice A0_3 l0_3.length c0_3) ∧ w16.cell? ⟨a1, 4, none⟩ = some (.slice A0_4 l0_4.length c0_4) ∧ w16.cell? ⟨a1, 5, none⟩ = some (.slice A0_5 l0_5.length c0_5) := hS_
      refine norm_ (a' := ?_) ?_ ?_
      rotate_left
      ·simp only [putAll, Act.put, sA0, sA1, sA2]
       rfl
      refine one_ (i := 13) (N := some 16) #[true, true, true, true, true, true, true, true, true, true, true, true, true, true, true, true, false, false, false] rfl rfl (one_of HT_.out (by kernel_rfl)) (by decide) (fun K hK => ?_)
      refine Kd.R_lit_step (Kd.int .i64) _ 3 ?hg (N := 16) ?hd (xs := ([] : List Int)) (inner := []) (ok := fun _ => True) (okp := fun _ => True) ?hr ?hp (fun _ hk => hk) trivial (Below.refl _ _) (Nat.le_refl _) (by simp) ?_; (case hd => rfl); (case hg => rfl); (case hr => first | (go_simp; done) | (go_simp; rfl)); (case hp => exact (Reps.none _ _))
      intro ac w17 bs hb hg_ hnew_
      clear hg_ hnew_
      (first | rw [← ax.out] at bs | (simp only [Int.reduceToNat] at bs; rw [← ax.out] at bs))
      have n0_ := kA9 (Kd.R_below (by (with_reducible repeat (first | apply kA0 | apply kA1 | apply kA2)); exact a6.out) hb)
      have n1_ := kA9 (Kd.R_below (by (with_reducible repeat (first | apply kA0 | apply kA1 | apply kA2)); exact a7.out) hb)
      have n2_ := kA9 (Kd.R_elder' (by (with_reducible repeat (first | apply kA0 | apply kA1 | apply kA2)); exact af.out) (Kd.R_base bs) hb)
      have n3_ := kA9 (Kd.R_elder' (by (with_reducible repeat (first | apply kA0 | apply kA1 | apply kA2)); exact b2.out) (Kd.R_base bs) hb)
      have n4_ := kA9 (Kd.R_lower (Kd.R_new' (Kd.R_new' bs (Kd.R_lt (by (with_reducible repeat (first | apply kA0 | apply kA1 | apply kA2)); exact af.out))) (Kd.R_lt (by (with_reducible repeat (first | apply kA0 | apply kA1 | apply kA2)); exact b2.out))) (below_size (by repeat (first | (with_reducible first | exact HB.out | apply kA5 | apply kA3 | apply kA4 | refine below_set ?_ a4.out | refine below_set ?_ a5.out) | exact HB.out))))
      have n5_ := kA9 (blk_below (g := a1) (o := .cells #[.slice A0_0 l0_0.length c0_0, .slice A0_1 l0_1.length c0_1, .int .i64 a0_2, .slice A0_3 l0_3.length c0_3, .slice A0_4 l0_4.length c0_4, .slice A0_5 l0_5.length c0_5] 34 (0, 0)) (by (with_reducible repeat (first | refine kA6 ?_ _ | refine kA8 ?_ | refine kA7 ?_ _)); exact a0.out) hb)
      have n6_ := kA9 (blk_below (g := a3) (o := .cells #[.slice none 0 0, .slice none 0 0, .int .i64 0, .slice none 0 0, .slice none 0 0, .slice none 0 0] 34 (0, 0)) (by (with_reducible repeat (first | refine kA6 ?_ _ | refine kA8 ?_ | refine kA7 ?_ _)); exact a2.out) hb)
      have n7_ := kA9 (below_step (by repeat (first | (with_reducible first | exact HB.out | apply kA5 | apply kA3 | apply kA4 | refine below_set ?_ a4.out | refine below_set ?_ a5.out) | exact HB.out)) hb)
      clear a6
      clear a7
      clear af
      clear b2
      clear a0
      clear a2
      clear HB
      have a6 := n0_
      have a7 := n1_
      have af := n2_
      have b2 := n3_
      have a8 := n4_
      have a0 := n5_
      have a2 := n6_
      have HB := n7_
      clear n0_ n1_ n2_ n3_ n4_ n5_ n6_ n7_
      clear hb bs
      refine hK.out _ _ ⟨(blk_cell a0.out 0).trans rfl, (blk_cell a0.out 1).trans rfl, (blk_cell a0.out 2).trans rfl, (blk_cell a0.out 3).trans rfl, (blk_cell a0.out 4).trans rfl, (blk_cell a0.out 5).trans rfl⟩ (fun hHeld => ?_)
      clear hK K
      refine norm_ (a' := ?_) ?_ ?_
      rotate_left
      ·show Act.put _ (some 16) _ = _
       simp only [Act.put, sA0, sA1, sA2, i64_w, i32_w]
       rfl
      exact norm_ (by first | (simp only [putAll, Act.put, sA0, sA1, sA2]; done) | (simp only [putAll, Act.put, sA0, sA1, sA2]; rfl)) (hJ2_5_8_9_12_13 (ag, ah, ae, ar, ad, b8, ac) _ ⟨hHeld, (by (with_reducible repeat (first | apply kA0 | apply kA1 | apply kA2)); exact a6.out), (by (with_reducible repeat (first | apply kA0 | apply kA1 | apply kA2)); exact a7.out), (by (with_reducible repeat (first | apply kA0 | apply kA1 | apply kA2)); exact af.out), (by (with_reducible repeat (first | apply kA0 | apply kA1 | apply kA2)); exact b2.out), (by (with_reducible repeat (first | apply kA0 | apply kA1 | apply kA2)); exact Kd.R_mono a8.out (fun _ hk => ⟨hk.1.2, hk.2⟩)), (by (with_reducible repeat (first | refine kA6 ?_ _ | refine kA8 ?_ | refine kA7 ?_ _)); exact a0.out), (by (with_reducible repeat (first | refine kA6 ?_ _ | refine kA8 ?_ | refine kA7 ?_ _)); exact a2.out), (by repeat (first | (with_reducible first | exact HB.out | apply kA5 | apply kA3 | apply kA4 | refine below_set ?_ a4.out | refine below_set ?_ a5.out) | exact HB.out))⟩)
    rintro ⟨ag, ah, ae, ar, ad, b8, ac⟩ w18 ⟨hS_, h0_, h1_, h2_, h3_, h4_, h5_, h6_, h7_⟩
    have n0_ : Aside0 (Kd.R Kd.string 9 w18 w.heap.size (fun _ => True) ag aj) := ⟨h0_⟩
    have n1_ : Aside0 (Kd.R k135 135 w18 w.heap.size (fun _ => True) ah ak) := ⟨h1_⟩
    have n2_ : Aside0 (Kd.R (Kd.int .i64) 3 w18 w.heap.size (fun k_ => some k_ ≠ (b8 : Value).ownBlock ∧ some k_ ≠ (ac : Value).ownBlock) ar az) := ⟨h2_⟩
    have n3_ : Aside0 (Kd.R (Kd.int .i64) 3 w18 w.heap.size (fun k_ => some k_ ≠ (ar : Value).ownBlock ∧ some k_ ≠ (ac : Value).ownBlock) b8 b7) := ⟨h3_⟩
    have n4_ : Aside0 (Kd.R (Kd.int .i64) 3 w18 w.heap.size (fun k_ => some k_ ≠ (ar : Value).ownBlock ∧ some k_ ≠ (b8 : Value).ownBlock) ac am) := ⟨h4_⟩
    have n5_ : Aside0 (w18.heap[a1]? = some (.cells #[.slice A0_0 l0_0.length c0_0, .slice A0_1 l0_1.length c0_1, .int .i64 a0_2, .slice A0_3 l0_3.length c0_3, .slice A0_4 l0_4.length c0_4, .slice A0_5 l0_5.length c0_5] 34 (0, 0))) := ⟨h5_⟩
    have n6_ : Aside0 (w18.heap[a3]? = some (.cells #[.slice none 0 0, .slice none 0 0, .int .i64 0, .slice none 0 0, .slice none 0 0, .slice none 0 0] 34 (0, 0))) := ⟨h6_⟩
    have n7_ : Aside0 (Below w.heap.size w w18) := ⟨h7_⟩
    clear a0
    clear a2
    clear HB
    clear h0_ h1_ h2_ h3_ h4_ h5_ h6_ h7_
    have a6 := n0_
    have a7 := n1_
    have af := n2_
    have b2 := n3_
    have a8 := n4_
    have a0 := n5_
    have a2 := n6_
    have HB := n7_
    clear n0_ n1_ n2_ n3_ n4_ n5_ n6_ n7_
    have hHeld : w18.cell? ⟨a1, 0, none⟩ = some (.slice A0_0 l0_0.length c0_0) ∧ w18.cell? ⟨a1, 1, none⟩ = some (.slice A0_1 l0_1.length c0_1) ∧ w18.cell? ⟨a1, 2, none⟩ = some (.int .i64 a0_2) ∧ w18.cell? ⟨a1, 3, none⟩ = some (.slice A0_3 l0_3.length c0_3) ∧ w18.cell? ⟨a1, 4, none⟩ = some (.slice A0_4 l0_4.length c0_4) ∧ w18.cell? ⟨a1, 5, none⟩ = some (.slice A0_5 l0_5.length c0_5) := hS_
    refine norm_ (a' := ?_) ?_ ?_
    rotate_left
    ·simp only [putAll, Act.put, sA0, sA1, sA2]
     rfl
    refine one_ (i := 16) (N := some 19) #[true, true, true, true, true, true, true, true, true, true, true, true, true, true, true, true, true, false, false] rfl rfl (one_of HT_.out (by kernel_rfl)) (by decide) (fun K hK => ?_)
    refine Kd.R_append_rows_step (Kd.int .i64) (w0 := w) w.heap.size (by rfl) (.tmp 16) (.tmp 18) 26 3 (.int .i64 0) 8 rfl Try.underlying26 info3 rfl (by decide) (by omega) ac am l0_5 _ _ _ (fun k_ => some k_ ≠ (ar : Value).ownBlock ∧ some k_ ≠ (b8 : Value).ownBlock) (fun _ => False) rfl rfl ?aO ?aR (fun _ _ h => h) (fun _ h => h.elim) ?aF ?aB ?aS ?aL ?_
    (case aR => repeat (first | exact (Kd.C_below HR0_5.out HB.out) | (with_reducible refine Kd.C_alloc ?_ _) | (with_reducible refine Kd.C_drewN ?_ _) | (with_reducible refine Kd.C_drew ?_)))
    (case aB => exact (by repeat (first | (with_reducible first | exact HB.out | apply kA5 | apply kA3 | apply kA4 | refine below_set ?_ a4.out | refine below_set ?_ a5.out) | exact HB.out)))
    (case aF => exact (fun k_ hk => ⟨Kd.fresh' (Kd.R_lt (by (with_reducible repeat (first | apply kA0 | apply kA1 | apply kA2)); exact af.out)) k_ hk, Kd.fresh' (Kd.R_lt (by (with_reducible repeat (first | apply kA0 | apply kA1 | apply kA2)); exact b2.out)) k_ hk⟩))
    (case aO => exact (by (with_reducible repeat (first | apply kA0 | apply kA1 | apply kA2)); exact a8.out))
    (case aS => exact (below_size (by repeat (first | (with_reducible first | exact HB.out | apply kA5 | apply kA3 | apply kA4 | refine below_set ?_ a4.out | refine below_set ?_ a5.out) | exact HB.out))))
    (case aL => have := LMc5.out; omega)
    intro v151 w19 ho hb hg hat
    rw [← Ny150.out] at ho
    have n0_ := kA9 (blk_grown (g := a1) (o := .cells #[.slice A0_0 l0_0.length c0_0, .slice A0_1 l0_1.length c0_1, .int .i64 a0_2, .slice A0_3 l0_3.length c0_3, .slice A0_4 l0_4.length c0_4, .slice A0_5 l0_5.length c0_5] 34 (0, 0)) (by (with_reducible repeat (first | refine kA6 ?_ _ | refine kA8 ?_ | refine kA7 ?_ _)); exact a0.out) hg (Kd.R_ne a8.out a0.out (by decide)))
    have n1_ := kA9 (blk_grown (g := a3) (o := .cells #[.slice none 0 0, .slice none 0 0, .int .i64 0, .slice none 0 0, .slice none 0 0, .slice none 0 0] 34 (0, 0)) (by (with_reducible repeat (first | refine kA6 ?_ _ | refine kA8 ?_ | refine kA7 ?_ _)); exact a2.out) hg (Kd.R_ne a8.out a2.out (by decide)))
    have n2_ := kA9 (Kd.R_over' (by (with_reducible repeat (first | apply kA0 | apply kA1 | apply kA2)); exact a6.out) (Kd.R_typed (by (with_reducible repeat (first | apply kA0 | apply kA1 | apply kA2)); exact a8.out)) (by decide) hg)
    have n3_ := kA9 (Kd.R_over' (by (with_reducible repeat (first | apply kA0 | apply kA1 | apply kA2)); exact a7.out) (Kd.R_typed (by (with_reducible repeat (first | apply kA0 | apply kA1 | apply kA2)); exact a8.out)) (by decide) hg)
    have n4_ := kA9 (Kd.R_after (ok := (fun k_ => some k_ ≠ (b8 : Value).ownBlock)) (by (with_reducible repeat (first | apply kA0 | apply kA1 | apply kA2)); exact af.out) hg hat)
    have n5_ := kA9 (Kd.R_after (ok := (fun k_ => some k_ ≠ (ar : Value).ownBlock)) (by (with_reducible repeat (first | apply kA0 | apply kA1 | apply kA2)); exact b2.out) hg hat)
    have n6_ := kA9 (hb)
    have n7_ := kA9 (ho)
    clear a0
    clear a2
    clear a6
    clear a7
    clear af
    clear b2
    clear HB
    clear a8
    have a0 := n0_
    have a2 := n1_
    have a6 := n2_
    have a7 := n3_
    have af := n4_
    have b2 := n5_
    have HB := n6_
    have HO152 := n7_
    clear n0_ n1_ n2_ n3_ n4_ n5_ n6_ n7_
    clear ho hb hg hat
    obtain ⟨c7, c8, eo20⟩ := Kd.R_slice HO152.out
    (first | subst eo20 | (injection eo20 with f1_ f2_ f3_; have f4_ := f1_.symm; have f5_ := f3_.symm; clear f1_ f2_ f3_; subst f4_; subst f5_))
    obtain ⟨bt, bu, eo21⟩ := Kd.R_slice b2.out
    (first | subst eo21 | (injection eo21 with f1_ f2_ f3_; have f4_ := f1_.symm; have f5_ := f3_.symm; clear f1_ f2_ f3_; subst f4_; subst f5_))
    obtain ⟨bk, bm, eo22⟩ := Kd.R_slice af.out
    (first | subst eo22 | (injection eo22 with f1_ f2_ f3_; have f4_ := f1_.symm; have f5_ := f3_.symm; clear f1_ f2_ f3_; subst f4_; subst f5_))
    obtain ⟨bh, bj, eo23⟩ := Kd.R_slice a7.out
    (first | subst eo23 | (injection eo23 with f1_ f2_ f3_; have f4_ := f1_.symm; have f5_ := f3_.symm; clear f1_ f2_ f3_; subst f4_; subst f5_))
    obtain ⟨bb, bc, eo24⟩ := Kd.R_slice a6.out
    (first | subst eo24 | (injection eo24 with f1_ f2_ f3_; have f4_ := f1_.symm; have f5_ := f3_.symm; clear f1_ f2_ f3_; subst f4_; subst f5_))
    refine hK.out _ _ ⟨(blk_cell a0.out 0).trans rfl, (blk_cell a0.out 1).trans rfl, (blk_cell a0.out 2).trans rfl, (blk_cell a0.out 3).trans rfl, (blk_cell a0.out 4).trans rfl, (blk_cell a0.out 5).trans rfl⟩ (fun hHeld => ?_)
    clear hK K
    refine norm_ (a' := ?_) ?_ ?_
    rotate_left
    ·show Act.put _ (some 19) _ = _
     simp only [Act.put, sA0, sA1, sA2, i64_w, i32_w]
     rfl
    refine pure_ (i := 17) (N := some 20) (v := ?_) (a' := ?_) #[true, true, true, true, true, true, true, true, true, true, true, true, true, true, true, true, true, true, false] rfl rfl (any_of HT_.out (by kernel_rfl)) (fun _ _ _ h => h) (Or.inl ⟨by rfl, ?_⟩) ?_ ?_
    rotate_left
    ·intro w'
     go_simp
     with_reducible rfl
    rotate_left
    ·simp only [Act.put, sA0, sA1, sA2, i64_w, i32_w]
     rfl
    refine one_ (i := 18) (N := none) #[true, true, true, true, true, true, true, true, true, true, true, true, true, true, true, true, true, true, true] rfl rfl (one_of HT_.out (by kernel_rfl)) (by decide) (fun K hK => ?_)
    have hs25 : w19.cell? ⟨a3, 0, none⟩ = some (.slice none 0 0) := (blk_cell a2.out 0).trans rfl
    have hfs25 := blk_frozen a2.out 0
    have hns25_0 := ab.out
    have hms25_0 := b6.out
    have hs26 : w19.cell? ⟨a3, 1, none⟩ = some (.slice none 0 0) := (blk_cell a2.out 1).trans rfl
    have hfs26 := blk_frozen a2.out 1
    have hns26_0 := ab.out
    have hms26_0 := b6.out
    have hs27 : w19.cell? ⟨a3, 2, none⟩ = some (.int .i64 0) := (blk_cell a2.out 2).trans rfl
    have hfs27 := blk_frozen a2.out 2
    have hns27_0 := ab.out
    have hms27_0 := b6.out
    have hs28 : w19.cell? ⟨a3, 3, none⟩ = some (.slice none 0 0) := (blk_cell a2.out 3).trans rfl
    have hfs28 := blk_frozen a2.out 3
    have hns28_0 := ab.out
    have hms28_0 := b6.out
    have hs29 : w19.cell? ⟨a3, 4, none⟩ = some (.slice none 0 0) := (blk_cell a2.out 4).trans rfl
    have hfs29 := blk_frozen a2.out 4
    have hns29_0 := ab.out
    have hms29_0 := b6.out
    have hs30 : w19.cell? ⟨a3, 5, none⟩ = some (.slice none 0 0) := (blk_cell a2.out 5).trans rfl
    have hfs30 := blk_frozen a2.out 5
    have hns30_0 := ab.out
    have hms30_0 := b6.out
    refine skip_ (w1 := ?_) (by rfl) rfl ?_ ?_
    rotate_left
    ·go_simp
     rfl
    refine hK.out _ _ ⟨((cell_far (p := ⟨a3, _, none⟩) ab.out _).trans (((cell_far (p := ⟨a3, _, none⟩) ab.out _).trans (((cell_far (p := ⟨a3, _, none⟩) ab.out _).trans (((cell_far (p := ⟨a3, _, none⟩) ab.out _).trans (((cell_far (p := ⟨a3, _, none⟩) ab.out _).trans (((cell_far (p := ⟨a3, _, none⟩) ab.out _).trans (hHeld.1)))))))))))), ((cell_far (p := ⟨a3, _, none⟩) ab.out _).trans (((cell_far (p := ⟨a3, _, none⟩) ab.out _).trans (((cell_far (p := ⟨a3, _, none⟩) ab.out _).trans (((cell_far (p := ⟨a3, _, none⟩) ab.out _).trans (((cell_far (p := ⟨a3, _, none⟩) ab.out _).trans (((cell_far (p := ⟨a3, _, none⟩) ab.out _).trans (hHeld.2.1)))))))))))), ((cell_far (p := ⟨a3, _, none⟩) ab.out _).trans (((cell_far (p := ⟨a3, _, none⟩) ab.out _).trans (((cell_far (p := ⟨a3, _, none⟩) ab.out _).trans (((cell_far (p := ⟨a3, _, none⟩) ab.out _).trans (((cell_far (p := ⟨a3, _, none⟩) ab.out _).trans (((cell_far (p := ⟨a3, _, none⟩) ab.out _).trans (hHeld.2.2.1)))))))))))), ((cell_far (p := ⟨a3, _, none⟩) ab.out _).trans (((cell_far (p := ⟨a3, _, none⟩) ab.out _).trans (((cell_far (p := ⟨a3, _, none⟩) ab.out _).trans (((cell_far (p := ⟨a3, _, none⟩) ab.out _).trans (((cell_far (p := ⟨a3, _, none⟩) ab.out _).trans (((cell_far (p := ⟨a3, _, none⟩) ab.out _).trans (hHeld.2.2.2.1)))))))))))), ((cell_far (p := ⟨a3, _, none⟩) ab.out _).trans (((cell_far (p := ⟨a3, _, none⟩) ab.out _).trans (((cell_far (p := ⟨a3, _, none⟩) ab.out _).trans (((cell_far (p := ⟨a3, _, none⟩) ab.out _).trans (((cell_far (p := ⟨a3, _, none⟩) ab.out _).trans (((cell_far (p := ⟨a3, _, none⟩) ab.out _).trans (hHeld.2.2.2.2.1)))))))))))), ((cell_far (p := ⟨a3, _, none⟩) ab.out _).trans (((cell_far (p := ⟨a3, _, none⟩) ab.out _).trans (((cell_far (p := ⟨a3, _, none⟩) ab.out _).trans (((cell_far (p := ⟨a3, _, none⟩) ab.out _).trans (((cell_far (p := ⟨a3, _, none⟩) ab.out _).trans (((cell_far (p := ⟨a3, _, none⟩) ab.out _).trans (hHeld.2.2.2.2.2))))))))))))⟩ (fun hHeld => ?_)
    clear hK K
    refine done_ (done_of HT_.out (by kernel_rfl)) ?_
    try go_wp2
    refine bodyPost_ret (results_cell_row rfl _ _ a3 34 #[.slice bb aj.length bc, .slice bh ak.length bj, .int .i64 a0_2, .slice bk az.length bm, .slice bt b7.length bu, .slice c7 bn.length c8] (0, 0) _ rfl (by (with_reducible repeat (first | refine kA6 ?_ _ | refine kA8 ?_ | refine kA7 ?_ _)); refine blk_put (cs := #[.slice bb aj.length bc, .slice bh ak.length bj, .int .i64 a0_2, .slice bk az.length bm, .slice bt b7.length bu, .slice none 0 0]) ?_ 5 _ rfl; (with_reducible repeat (first | refine kA6 ?_ _ | refine kA8 ?_ | refine kA7 ?_ _)); refine blk_put (cs := #[.slice bb aj.length bc, .slice bh ak.length bj, .int .i64 a0_2, .slice bk az.length bm, .slice none 0 0, .slice none 0 0]) ?_ 4 _ rfl; (with_reducible repeat (first | refine kA6 ?_ _ | refine kA8 ?_ | refine kA7 ?_ _)); refine blk_put (cs := #[.slice bb aj.length bc, .slice bh ak.length bj, .int .i64 a0_2, .slice none 0 0, .slice none 0 0, .slice none 0 0]) ?_ 3 _ rfl; (with_reducible repeat (first | refine kA6 ?_ _ | refine kA8 ?_ | refine kA7 ?_ _)); refine blk_put (cs := #[.slice bb aj.length bc, .slice bh ak.length bj, .int .i64 0, .slice none 0 0, .slice none 0 0, .slice none 0 0]) ?_ 2 _ rfl; (with_reducible repeat (first | refine kA6 ?_ _ | refine kA8 ?_ | refine kA7 ?_ _)); refine blk_put (cs := #[.slice bb aj.length bc, .slice none 0 0, .int .i64 0, .slice none 0 0, .slice none 0 0, .slice none 0 0]) ?_ 1 _ rfl; (with_reducible repeat (first | refine kA6 ?_ _ | refine kA8 ?_ | refine kA7 ?_ _)); refine blk_put (cs := #[.slice none 0 0, .slice none 0 0, .int .i64 0, .slice none 0 0, .slice none 0 0, .slice none 0 0]) ?_ 0 _ rfl; (with_reducible repeat (first | refine kA6 ?_ _ | refine kA8 ?_ | refine kA7 ?_ _)); exact a2.out) Try.underlying34 rfl (by kernel_rfl)) rfl ?_
    exact ⟨_, _, _, _, _, by first | rfl | (simp [errW_none, errW_some] <;> rfl) | (simp [*, errW_none, errW_some] <;> rfl), by (with_reducible repeat (first | apply kA0 | apply kA1 | apply kA2)); exact Kd.R_mono (Kd.R_far (p := ⟨a3, 5, none⟩) (Kd.R_far (p := ⟨a3, 4, none⟩) (Kd.R_far (p := ⟨a3, 3, none⟩) (Kd.R_far (p := ⟨a3, 2, none⟩) (Kd.R_far (p := ⟨a3, 1, none⟩) (Kd.R_far (p := ⟨a3, 0, none⟩) (Kd.R_types a6.out a2.out (by decide)) (fun _ hk => hk.2) (.slice bb aj.length bc)) (fun _ hk => hk.2) (.slice bh ak.length bj)) (fun _ hk => hk.2) (.int .i64 a0_2)) (fun _ hk => hk.2) (.slice bk az.length bm)) (fun _ hk => hk.2) (.slice bt b7.length bu)) (fun _ hk => hk.2) (.slice c7 bn.length c8)) (fun _ hk => trivial), by (with_reducible repeat (first | apply kA0 | apply kA1 | apply kA2)); exact Kd.R_mono (Kd.R_far (p := ⟨a3, 5, none⟩) (Kd.R_far (p := ⟨a3, 4, none⟩) (Kd.R_far (p := ⟨a3, 3, none⟩) (Kd.R_far (p := ⟨a3, 2, none⟩) (Kd.R_far (p := ⟨a3, 1, none⟩) (Kd.R_far (p := ⟨a3, 0, none⟩) (Kd.R_types a7.out a2.out (by decide)) (fun _ hk => hk.2) (.slice bb aj.length bc)) (fun _ hk => hk.2) (.slice bh ak.length bj)) (fun _ hk => hk.2) (.int .i64 a0_2)) (fun _ hk => hk.2) (.slice bk az.length bm)) (fun _ hk => hk.2) (.slice bt b7.length bu)) (fun _ hk => hk.2) (.slice c7 bn.length c8)) (fun _ hk => trivial), by (with_reducible repeat (first | apply kA0 | apply kA1 | apply kA2)); exact Kd.R_mono (Kd.R_far (p := ⟨a3, 5, none⟩) (Kd.R_far (p := ⟨a3, 4, none⟩) (Kd.R_far (p := ⟨a3, 3, none⟩) (Kd.R_far (p := ⟨a3, 2, none⟩) (Kd.R_far (p := ⟨a3, 1, none⟩) (Kd.R_far (p := ⟨a3, 0, none⟩) (Kd.R_types af.out a2.out (by decide)) (fun _ hk => hk.2) (.slice bb aj.length bc)) (fun _ hk => hk.2) (.slice bh ak.length bj)) (fun _ hk => hk.2) (.int .i64 a0_2)) (fun _ hk => hk.2) (.slice bk az.length bm)) (fun _ hk => hk.2) (.slice bt b7.length bu)) (fun _ hk => hk.2) (.slice c7 bn.length c8)) (fun _ hk => ⟨hk.1.1, hk.1.2⟩), by (with_reducible repeat (first | apply kA0 | apply kA1 | apply kA2)); exact Kd.R_mono (Kd.R_far (p := ⟨a3, 5, none⟩) (Kd.R_far (p := ⟨a3, 4, none⟩) (Kd.R_far (p := ⟨a3, 3, none⟩) (Kd.R_far (p := ⟨a3, 2, none⟩) (Kd.R_far (p := ⟨a3, 1, none⟩) (Kd.R_far (p := ⟨a3, 0, none⟩) (Kd.R_types b2.out a2.out (by decide)) (fun _ hk => hk.2) (.slice bb aj.length bc)) (fun _ hk => hk.2) (.slice bh ak.length bj)) (fun _ hk => hk.2) (.int .i64 a0_2)) (fun _ hk => hk.2) (.slice bk az.length bm)) (fun _ hk => hk.2) (.slice bt b7.length bu)) (fun _ hk => hk.2) (.slice c7 bn.length c8)) (fun _ hk => ⟨hk.1.1, hk.1.2⟩), by (with_reducible repeat (first | apply kA0 | apply kA1 | apply kA2)); exact Kd.R_mono (Kd.R_far (p := ⟨a3, 5, none⟩) (Kd.R_far (p := ⟨a3, 4, none⟩) (Kd.R_far (p := ⟨a3, 3, none⟩) (Kd.R_far (p := ⟨a3, 2, none⟩) (Kd.R_far (p := ⟨a3, 1, none⟩) (Kd.R_far (p := ⟨a3, 0, none⟩) (Kd.R_types HO152.out a2.out (by decide)) (fun _ hk => hk.2) (.slice bb aj.length bc)) (fun _ hk => hk.2) (.slice bh ak.length bj)) (fun _ hk => hk.2) (.int .i64 a0_2)) (fun _ hk => hk.2) (.slice bk az.length bm)) (fun _ hk => hk.2) (.slice bt b7.length bu)) (fun _ hk => hk.2) (.slice c7 bn.length c8)) (fun _ hk => ⟨hk.1.1, hk.1.2⟩), by repeat (first | (with_reducible first | exact HB.out | apply kA5 | apply kA3 | apply kA4 | refine below_set ?_ a4.out | refine below_set ?_ a5.out) | exact HB.out)⟩
   ·rw [if_neg c5] at H
    exact absurd H (by simp)
  ·rw [if_neg c4] at H
   exact absurd H (by simp)
 ·rw [if_neg c3] at H
  exact absurd H (by simp)
end Go.Proofs.Ytonhdiemjgdcnaa.PFnExactGivePage
