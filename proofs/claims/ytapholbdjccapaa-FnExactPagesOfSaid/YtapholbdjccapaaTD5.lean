import Derived.Test.YtapholbdjccapaaTD4
import Derived.Outline
set_option maxHeartbeats 64000000
set_option maxRecDepth 100000
set_option linter.unusedVariables false
set_option linter.unusedSimpArgs false
namespace Go.Proofs.Ytapholbdjccapaa.PFnExactTreeOk
open Go.RowKit Go.Proofs.YtapholbdjccapaaW.PrintWords Go.Proofs.YtapholbdjccapaaW.PrintLast Go.Proofs.YtapholbdjccapaaW.PrintMore
attribute [local go_sem] max2_int min2_int max_two min_two max_three min_three max_four min_four
theorem bcell {W w1 : World} (hb : Below W.heap.size W w1) : (∀ b o, b < W.heap.size → w1.cell? ⟨b, o, none⟩ = W.cell? ⟨b, o, none⟩) ∧ (∀ b o, b < W.heap.size → w1.frozen? ⟨b, o, none⟩ = W.frozen? ⟨b, o, none⟩) :=
 ⟨fun b o h => hb.cell (p := ⟨b, o, none⟩) h, fun b o h => hb.frozen (p := ⟨b, o, none⟩) h⟩
def BranchOk (keys vals : List ByteArray) (kids : List Int) : Prop := kids.length = keys.length ∧ vals.length = 0 ∧ ∀ i (h : i < kids.length), 2 ≤ kids[i] ∧ kids[i] ≤ 39 ∧ (kids.take i).contains kids[i] = false
theorem index_ev (l : List Int) (x : Int) (hbig : l.length ≤ 9223372036854775807) : ∀ (d i : Nat), i + d = l.length → (∀ j (h : j < l.length), j < i → l[j] ≠ x) →
  ∃ r : Int, slices_Index_int_int.l0 (d + 1) l x (l.length : Int) (i : Int) = some r ∧ (l.contains x = decide (r ≥ 0)) := by
 intro d
 induction d with
 | zero =>
  intro i hi hb
  refine ⟨-1, ?_, ?_⟩
  ·simp only [slices_Index_int_int.l0]
   rw [if_neg (by omega)]
  ·rw [show decide ((-1 : Int) ≥ 0) = false from rfl]
   rw [Bool.eq_false_iff]
   intro h
   rw [List.contains_iff_mem] at h
   obtain ⟨j, hj, rfl⟩ := List.getElem_of_mem h
   exact hb j hj (by omega) rfl
 | succ d ih =>
  intro i hi hb
  have hlt : i < l.length := by omega
  have hrd : rd l (i : Int) = l[i] := by simp [rd, List.getD_eq_getElem?_getD, List.getElem?_eq_getElem hlt]
  by_cases hx : x = l[i]
  ·refine ⟨i, ?_, ?_⟩
   ·simp only [slices_Index_int_int.l0]
    rw [if_pos (by omega), if_pos (by omega), if_pos (by omega), hrd, if_pos hx]
   ·rw [decide_eq_true (show (i : Int) ≥ 0 by omega), List.contains_iff_mem, hx]
    exact List.getElem_mem hlt
  ·obtain ⟨r, hr, hc⟩ := ih (i + 1) (by omega) (fun j hj hji => by
    by_cases e : j = i
    ·subst e; exact fun h => hx h.symm
    ·exact hb j hj (by omega))
   refine ⟨r, ?_, hc⟩
   simp only [slices_Index_int_int.l0]
   rw [if_pos (by omega), if_pos (by omega), if_pos (by omega), hrd, if_neg hx, show wrap64 ((i : Int) + 1) = ((i + 1 : Nat) : Int) by unfold wrap64; omega]
   exact hr
theorem contains_ev (l : List Int) (x : Int) (b : Bool) (h : l.contains x = b) (hbig : l.length ≤ 9223372036854775807) : ∃ k, slices_Contains_int_int.f k l x = some b := by
 obtain ⟨r, hr, hc⟩ := index_ev l x hbig l.length 0 (by omega) (fun j hj h => absurd h (Nat.not_lt_zero _))
 refine ⟨l.length + 1, ?_⟩
 unfold slices_Contains_int_int.f slices_Index_int_int.f
 have hr' : slices_Index_int_int.l0 (l.length + 1) l x (l.length : Int) 0 = some r := hr
 rw [hr', Option.bind_some, ← hc, h]
theorem nodeOk_in (leaf : Bool) (A1 : Option Addr) (c1 : Nat) (keys : List ByteArray) (A2 : Option Addr) (c2 : Nat) (vals : List ByteArray) (A3 : Option Addr) (c3 : Nat) (kids : List Int) (w : World) (hr1 : Kd.C Kd.string w A1 keys.length keys) (hc1 : keys.length ≤ c1) (hr2 : Kd.C Kd.string w A2 vals.length vals) (hc2 : vals.length ≤ c2) (hr3 : Kd.C (Kd.int .i64) w A3 kids.length kids) (hc3 : kids.length ≤ c3) (hi : impl_in.f (keys.length : Int) 1 4 = some false) :
  Calls Try.prog 32 #[.agg #[.bool leaf, .slice A1 keys.length c1, .slice A2 vals.length c2, .slice A3 kids.length c3]] w fun e w' => e = .returned (.bool false) ∧ Below w.heap.size w w' := by
 have HR1 := Aside0.mk hr1
 have HR2 := Aside0.mk hr2
 have HR3 := Aside0.mk hr3
 have HC1 := Aside0.mk hc1
 have HC2 := Aside0.mk hc2
 have HC3 := Aside0.mk hc3
 clear hr1 hr2 hr3 hc1 hc2 hc3
 have HI := Aside0.mk hi
 clear hi
 go_enter Try.func32, Try.ntmps32
 go_wp2_with fail
 ((with_reducible refine (impl_in.calls (keys.length : Int) 1 4 false _ HI.out).mono ?_); rintro e w1 ⟨rfl, nd1, rfl⟩)
 have HB1 := Aside0.mk (show Below w.heap.size w _ from pw_below_drewN (below_alloc (Below.refl w.heap.size w) (.cells #[.bool leaf, .slice A1 keys.length c1, .slice A2 vals.length c2, .slice A3 kids.length c3] 68)) nd1)
 have BK1 := Aside0.mk (blk_drewN (blk_new w (.cells #[.bool leaf, .slice A1 keys.length c1, .slice A2 vals.length c2, .slice A3 kids.length c3] 68)) nd1)
 go_wp2
 go_ret
 exact ⟨rfl, HB1.out⟩
theorem nodeOk_asc (leaf : Bool) (A1 : Option Addr) (c1 : Nat) (keys : List ByteArray) (A2 : Option Addr) (c2 : Nat) (vals : List ByteArray) (A3 : Option Addr) (c3 : Nat) (kids : List Int) (w : World) (hr1 : Kd.C Kd.string w A1 keys.length keys) (hc1 : keys.length ≤ c1) (hr2 : Kd.C Kd.string w A2 vals.length vals) (hc2 : vals.length ≤ c2) (hr3 : Kd.C (Kd.int .i64) w A3 kids.length kids) (hc3 : kids.length ≤ c3) (hi : impl_in.f (keys.length : Int) 1 4 = some true) (ha : impl_ascending.f keys = some false) :
  Calls Try.prog 32 #[.agg #[.bool leaf, .slice A1 keys.length c1, .slice A2 vals.length c2, .slice A3 kids.length c3]] w fun e w' => e = .returned (.bool false) ∧ Below w.heap.size w w' := by
 have HR1 := Aside0.mk hr1
 have HR2 := Aside0.mk hr2
 have HR3 := Aside0.mk hr3
 have HC1 := Aside0.mk hc1
 have HC2 := Aside0.mk hc2
 have HC3 := Aside0.mk hc3
 clear hr1 hr2 hr3 hc1 hc2 hc3
 have HI := Aside0.mk hi
 have HA := Aside0.mk ha
 clear hi ha
 go_enter Try.func32, Try.ntmps32
 go_wp2_with fail
 ((with_reducible refine (impl_in.calls (keys.length : Int) 1 4 true _ HI.out).mono ?_); rintro e w1 ⟨rfl, nd1, rfl⟩)
 have HB1 := Aside0.mk (show Below w.heap.size w _ from pw_below_drewN (below_alloc (Below.refl w.heap.size w) (.cells #[.bool leaf, .slice A1 keys.length c1, .slice A2 vals.length c2, .slice A3 kids.length c3] 68)) nd1)
 have BK1 := Aside0.mk (blk_drewN (blk_new w (.cells #[.bool leaf, .slice A1 keys.length c1, .slice A2 vals.length c2, .slice A3 kids.length c3] 68)) nd1)
 go_wp2_with fail
 ((with_reducible refine (impl_ascending.calls A1 c1 keys false _ (Kd.C_below HR1.out HB1.out) HC1.out HA.out).mono ?_); rintro e w2 ⟨rfl, hb2⟩)
 obtain ⟨hcell2, hfr2⟩ := bcell hb2
 have hz2 : w.heap.size < w2.heap.size := by have hh := hb2.size; (try simp at hh); omega
 have HB2 := Aside0.mk (below_step HB1.out hb2)
 have BK2 := Aside0.mk (blk_below BK1.out hb2)
 clear hb2
 go_wp2
 go_ret
 exact ⟨rfl, HB2.out⟩
theorem nodeOk_lng (leaf : Bool) (A1 : Option Addr) (c1 : Nat) (keys : List ByteArray) (A2 : Option Addr) (c2 : Nat) (vals : List ByteArray) (A3 : Option Addr) (c3 : Nat) (kids : List Int) (w : World) (hr1 : Kd.C Kd.string w A1 keys.length keys) (hc1 : keys.length ≤ c1) (hr2 : Kd.C Kd.string w A2 vals.length vals) (hc2 : vals.length ≤ c2) (hr3 : Kd.C (Kd.int .i64) w A3 kids.length kids) (hc3 : kids.length ≤ c3) (hi : impl_in.f (keys.length : Int) 1 4 = some true) (ha : impl_ascending.f keys = some true) (hl : impl_longer.f keys 24 = some true) :
  Calls Try.prog 32 #[.agg #[.bool leaf, .slice A1 keys.length c1, .slice A2 vals.length c2, .slice A3 kids.length c3]] w fun e w' => e = .returned (.bool false) ∧ Below w.heap.size w w' := by
 have HR1 := Aside0.mk hr1
 have HR2 := Aside0.mk hr2
 have HR3 := Aside0.mk hr3
 have HC1 := Aside0.mk hc1
 have HC2 := Aside0.mk hc2
 have HC3 := Aside0.mk hc3
 clear hr1 hr2 hr3 hc1 hc2 hc3
 have HI := Aside0.mk hi
 have HA := Aside0.mk ha
 have HL := Aside0.mk hl
 clear hi ha hl
 go_enter Try.func32, Try.ntmps32
 go_wp2_with fail
 ((with_reducible refine (impl_in.calls (keys.length : Int) 1 4 true _ HI.out).mono ?_); rintro e w1 ⟨rfl, nd1, rfl⟩)
 have HB1 := Aside0.mk (show Below w.heap.size w _ from pw_below_drewN (below_alloc (Below.refl w.heap.size w) (.cells #[.bool leaf, .slice A1 keys.length c1, .slice A2 vals.length c2, .slice A3 kids.length c3] 68)) nd1)
 have BK1 := Aside0.mk (blk_drewN (blk_new w (.cells #[.bool leaf, .slice A1 keys.length c1, .slice A2 vals.length c2, .slice A3 kids.length c3] 68)) nd1)
 go_wp2_with fail
 ((with_reducible refine (impl_ascending.calls A1 c1 keys true _ (Kd.C_below HR1.out HB1.out) HC1.out HA.out).mono ?_); rintro e w2 ⟨rfl, hb2⟩)
 obtain ⟨hcell2, hfr2⟩ := bcell hb2
 have hz2 : w.heap.size < w2.heap.size := by have hh := hb2.size; (try simp at hh); omega
 have HB2 := Aside0.mk (below_step HB1.out hb2)
 have BK2 := Aside0.mk (blk_below BK1.out hb2)
 clear hb2
 go_wp2_with fail
 ((with_reducible refine (impl_longer.calls A1 c1 keys 24 true _ (Kd.C_below HR1.out HB2.out) HC1.out HL.out).mono ?_); rintro e w3 ⟨rfl, hb3⟩)
 obtain ⟨hcell3, hfr3⟩ := bcell hb3
 have hz3 : w.heap.size < w3.heap.size := by have hh := hb3.size; (try simp at hh); omega
 have HB3 := Aside0.mk (below_step HB2.out hb3)
 have BK3 := Aside0.mk (blk_below BK2.out hb3)
 clear hb3
 go_wp2
 go_ret
 exact ⟨rfl, HB3.out⟩
theorem nodeOk_leaf_len (leaf : Bool) (A1 : Option Addr) (c1 : Nat) (keys : List ByteArray) (A2 : Option Addr) (c2 : Nat) (vals : List ByteArray) (A3 : Option Addr) (c3 : Nat) (kids : List Int) (w : World) (hr1 : Kd.C Kd.string w A1 keys.length keys) (hc1 : keys.length ≤ c1) (hr2 : Kd.C Kd.string w A2 vals.length vals) (hc2 : vals.length ≤ c2) (hr3 : Kd.C (Kd.int .i64) w A3 kids.length kids) (hc3 : kids.length ≤ c3) (hi : impl_in.f (keys.length : Int) 1 4 = some true) (ha : impl_ascending.f keys = some true) (hl : impl_longer.f keys 24 = some false) (hn : ¬ vals.length = keys.length) :
  Calls Try.prog 32 #[.agg #[.bool true, .slice A1 keys.length c1, .slice A2 vals.length c2, .slice A3 kids.length c3]] w fun e w' => e = .returned (.bool false) ∧ Below w.heap.size w w' := by
 have HR1 := Aside0.mk hr1
 have HR2 := Aside0.mk hr2
 have HR3 := Aside0.mk hr3
 have HC1 := Aside0.mk hc1
 have HC2 := Aside0.mk hc2
 have HC3 := Aside0.mk hc3
 clear hr1 hr2 hr3 hc1 hc2 hc3
 have HI := Aside0.mk hi
 have HA := Aside0.mk ha
 have HL := Aside0.mk hl
 clear hi ha hl
 have hnz : ¬ ((vals.length : Int) = (keys.length : Int)) := by omega
 have hnd : decide ((vals.length : Int) = (keys.length : Int)) = false := decide_eq_false hnz
 have hnb : ((vals.length : Int) == (keys.length : Int)) = false := beq_eq_false_iff_ne.2 hnz
 go_enter Try.func32, Try.ntmps32
 go_wp2_with fail
 ((with_reducible refine (impl_in.calls (keys.length : Int) 1 4 true _ HI.out).mono ?_); rintro e w1 ⟨rfl, nd1, rfl⟩)
 have HB1 := Aside0.mk (show Below w.heap.size w _ from pw_below_drewN (below_alloc (Below.refl w.heap.size w) (.cells #[.bool true, .slice A1 keys.length c1, .slice A2 vals.length c2, .slice A3 kids.length c3] 68)) nd1)
 have BK1 := Aside0.mk (blk_drewN (blk_new w (.cells #[.bool true, .slice A1 keys.length c1, .slice A2 vals.length c2, .slice A3 kids.length c3] 68)) nd1)
 go_wp2_with fail
 ((with_reducible refine (impl_ascending.calls A1 c1 keys true _ (Kd.C_below HR1.out HB1.out) HC1.out HA.out).mono ?_); rintro e w2 ⟨rfl, hb2⟩)
 obtain ⟨hcell2, hfr2⟩ := bcell hb2
 have hz2 : w.heap.size < w2.heap.size := by have hh := hb2.size; (try simp at hh); omega
 have HB2 := Aside0.mk (below_step HB1.out hb2)
 have BK2 := Aside0.mk (blk_below BK1.out hb2)
 clear hb2
 go_wp2_with fail
 ((with_reducible refine (impl_longer.calls A1 c1 keys 24 false _ (Kd.C_below HR1.out HB2.out) HC1.out HL.out).mono ?_); rintro e w3 ⟨rfl, hb3⟩)
 obtain ⟨hcell3, hfr3⟩ := bcell hb3
 have hz3 : w.heap.size < w3.heap.size := by have hh := hb3.size; (try simp at hh); omega
 have HB3 := Aside0.mk (below_step HB2.out hb3)
 have BK3 := Aside0.mk (blk_below BK2.out hb3)
 clear hb3
 go_wp2
 go_ret
 exact ⟨rfl, HB3.out⟩
theorem nodeOk_leaf_lng (leaf : Bool) (A1 : Option Addr) (c1 : Nat) (keys : List ByteArray) (A2 : Option Addr) (c2 : Nat) (vals : List ByteArray) (A3 : Option Addr) (c3 : Nat) (kids : List Int) (w : World) (hr1 : Kd.C Kd.string w A1 keys.length keys) (hc1 : keys.length ≤ c1) (hr2 : Kd.C Kd.string w A2 vals.length vals) (hc2 : vals.length ≤ c2) (hr3 : Kd.C (Kd.int .i64) w A3 kids.length kids) (hc3 : kids.length ≤ c3) (hi : impl_in.f (keys.length : Int) 1 4 = some true) (ha : impl_ascending.f keys = some true) (hl : impl_longer.f keys 24 = some false) (hn : vals.length = keys.length) (hl2 : impl_longer.f vals 24 = some true) :
  Calls Try.prog 32 #[.agg #[.bool true, .slice A1 keys.length c1, .slice A2 vals.length c2, .slice A3 kids.length c3]] w fun e w' => e = .returned (.bool false) ∧ Below w.heap.size w w' := by
 have HR1 := Aside0.mk hr1
 have HR2 := Aside0.mk hr2
 have HR3 := Aside0.mk hr3
 have HC1 := Aside0.mk hc1
 have HC2 := Aside0.mk hc2
 have HC3 := Aside0.mk hc3
 clear hr1 hr2 hr3 hc1 hc2 hc3
 have HI := Aside0.mk hi
 have HA := Aside0.mk ha
 have HL := Aside0.mk hl
 have HL2 := Aside0.mk hl2
 clear hi ha hl hl2
 have HN := Aside0.mk hn
 have hnb : ((vals.length : Int) == (keys.length : Int)) = true := beq_iff_eq.2 (by omega)
 clear hn
 go_enter Try.func32, Try.ntmps32
 go_wp2_with fail
 ((with_reducible refine (impl_in.calls (keys.length : Int) 1 4 true _ HI.out).mono ?_); rintro e w1 ⟨rfl, nd1, rfl⟩)
 have HB1 := Aside0.mk (show Below w.heap.size w _ from pw_below_drewN (below_alloc (Below.refl w.heap.size w) (.cells #[.bool true, .slice A1 keys.length c1, .slice A2 vals.length c2, .slice A3 kids.length c3] 68)) nd1)
 have BK1 := Aside0.mk (blk_drewN (blk_new w (.cells #[.bool true, .slice A1 keys.length c1, .slice A2 vals.length c2, .slice A3 kids.length c3] 68)) nd1)
 go_wp2_with fail
 ((with_reducible refine (impl_ascending.calls A1 c1 keys true _ (Kd.C_below HR1.out HB1.out) HC1.out HA.out).mono ?_); rintro e w2 ⟨rfl, hb2⟩)
 obtain ⟨hcell2, hfr2⟩ := bcell hb2
 have hz2 : w.heap.size < w2.heap.size := by have hh := hb2.size; (try simp at hh); omega
 have HB2 := Aside0.mk (below_step HB1.out hb2)
 have BK2 := Aside0.mk (blk_below BK1.out hb2)
 clear hb2
 go_wp2_with fail
 ((with_reducible refine (impl_longer.calls A1 c1 keys 24 false _ (Kd.C_below HR1.out HB2.out) HC1.out HL.out).mono ?_); rintro e w3 ⟨rfl, hb3⟩)
 obtain ⟨hcell3, hfr3⟩ := bcell hb3
 have hz3 : w.heap.size < w3.heap.size := by have hh := hb3.size; (try simp at hh); omega
 have HB3 := Aside0.mk (below_step HB2.out hb3)
 have BK3 := Aside0.mk (blk_below BK2.out hb3)
 clear hb3
 go_wp2_with fail
 ((with_reducible refine (impl_longer.calls A2 c2 vals 24 true _ (Kd.C_below HR2.out HB3.out) HC2.out HL2.out).mono ?_); rintro e w4 ⟨rfl, hb4⟩)
 obtain ⟨hcell4, hfr4⟩ := bcell hb4
 have hz4 : w.heap.size < w4.heap.size := by have hh := hb4.size; (try simp at hh); omega
 have HB4 := Aside0.mk (below_step HB3.out hb4)
 clear hb4
 go_wp2
 go_ret
 exact ⟨rfl, HB4.out⟩
theorem nodeOk_leaf (leaf : Bool) (A1 : Option Addr) (c1 : Nat) (keys : List ByteArray) (A2 : Option Addr) (c2 : Nat) (vals : List ByteArray) (A3 : Option Addr) (c3 : Nat) (kids : List Int) (w : World) (hr1 : Kd.C Kd.string w A1 keys.length keys) (hc1 : keys.length ≤ c1) (hr2 : Kd.C Kd.string w A2 vals.length vals) (hc2 : vals.length ≤ c2) (hr3 : Kd.C (Kd.int .i64) w A3 kids.length kids) (hc3 : kids.length ≤ c3) (hi : impl_in.f (keys.length : Int) 1 4 = some true) (ha : impl_ascending.f keys = some true) (hl : impl_longer.f keys 24 = some false) (hn : vals.length = keys.length) (hl2 : impl_longer.f vals 24 = some false) (r : Bool) (hk : decide (kids.length = 0) = r) :
  Calls Try.prog 32 #[.agg #[.bool true, .slice A1 keys.length c1, .slice A2 vals.length c2, .slice A3 kids.length c3]] w fun e w' => e = .returned (.bool r) ∧ Below w.heap.size w w' := by
 have HR1 := Aside0.mk hr1
 have HR2 := Aside0.mk hr2
 have HR3 := Aside0.mk hr3
 have HC1 := Aside0.mk hc1
 have HC2 := Aside0.mk hc2
 have HC3 := Aside0.mk hc3
 clear hr1 hr2 hr3 hc1 hc2 hc3
 have HI := Aside0.mk hi
 have HA := Aside0.mk ha
 have HL := Aside0.mk hl
 have HL2 := Aside0.mk hl2
 clear hi ha hl hl2
 have HN := Aside0.mk hn
 have HK := Aside0.mk hk
 have hnb : ((vals.length : Int) == (keys.length : Int)) = true := beq_iff_eq.2 (by omega)
 have hkb : ((kids.length : Int) == 0) = r := by rw [← hk]; by_cases h : kids.length = 0 <;> simp [h]
 clear hn hk
 go_enter Try.func32, Try.ntmps32
 go_wp2_with fail
 ((with_reducible refine (impl_in.calls (keys.length : Int) 1 4 true _ HI.out).mono ?_); rintro e w1 ⟨rfl, nd1, rfl⟩)
 have HB1 := Aside0.mk (show Below w.heap.size w _ from pw_below_drewN (below_alloc (Below.refl w.heap.size w) (.cells #[.bool true, .slice A1 keys.length c1, .slice A2 vals.length c2, .slice A3 kids.length c3] 68)) nd1)
 have BK1 := Aside0.mk (blk_drewN (blk_new w (.cells #[.bool true, .slice A1 keys.length c1, .slice A2 vals.length c2, .slice A3 kids.length c3] 68)) nd1)
 go_wp2_with fail
 ((with_reducible refine (impl_ascending.calls A1 c1 keys true _ (Kd.C_below HR1.out HB1.out) HC1.out HA.out).mono ?_); rintro e w2 ⟨rfl, hb2⟩)
 obtain ⟨hcell2, hfr2⟩ := bcell hb2
 have hz2 : w.heap.size < w2.heap.size := by have hh := hb2.size; (try simp at hh); omega
 have HB2 := Aside0.mk (below_step HB1.out hb2)
 have BK2 := Aside0.mk (blk_below BK1.out hb2)
 clear hb2
 go_wp2_with fail
 ((with_reducible refine (impl_longer.calls A1 c1 keys 24 false _ (Kd.C_below HR1.out HB2.out) HC1.out HL.out).mono ?_); rintro e w3 ⟨rfl, hb3⟩)
 obtain ⟨hcell3, hfr3⟩ := bcell hb3
 have hz3 : w.heap.size < w3.heap.size := by have hh := hb3.size; (try simp at hh); omega
 have HB3 := Aside0.mk (below_step HB2.out hb3)
 have BK3 := Aside0.mk (blk_below BK2.out hb3)
 clear hb3
 go_wp2_with fail
 ((with_reducible refine (impl_longer.calls A2 c2 vals 24 false _ (Kd.C_below HR2.out HB3.out) HC2.out HL2.out).mono ?_); rintro e w4 ⟨rfl, hb4⟩)
 obtain ⟨hcell4, hfr4⟩ := bcell hb4
 have hz4 : w.heap.size < w4.heap.size := by have hh := hb4.size; (try simp at hh); omega
 have HB4 := Aside0.mk (below_step HB3.out hb4)
 clear hb4
 go_wp2
 go_ret
 exact ⟨by first | rfl | simp [hkb], HB4.out⟩
theorem nodeOk_branch (leaf : Bool) (A1 : Option Addr) (c1 : Nat) (keys : List ByteArray) (A2 : Option Addr) (c2 : Nat) (vals : List ByteArray) (A3 : Option Addr) (c3 : Nat) (kids : List Int) (w : World) (hr1 : Kd.C Kd.string w A1 keys.length keys) (hc1 : keys.length ≤ c1) (hr2 : Kd.C Kd.string w A2 vals.length vals) (hc2 : vals.length ≤ c2) (hr3 : Kd.C (Kd.int .i64) w A3 kids.length kids) (hc3 : kids.length ≤ c3) (hi : impl_in.f (keys.length : Int) 1 4 = some true) (ha : impl_ascending.f keys = some true) (hl : impl_longer.f keys 24 = some false) (r : Bool) (hf : (BranchOk keys vals kids → r = true) ∧ (¬ BranchOk keys vals kids → r = false)) :
  Calls Try.prog 32 #[.agg #[.bool false, .slice A1 keys.length c1, .slice A2 vals.length c2, .slice A3 kids.length c3]] w fun e w' => e = .returned (.bool r) ∧ Below w.heap.size w w' := by
 have HR1 := Aside0.mk hr1
 have HR2 := Aside0.mk hr2
 have HR3 := Aside0.mk hr3
 have HC1 := Aside0.mk hc1
 have HC2 := Aside0.mk hc2
 have HC3 := Aside0.mk hc3
 clear hr1 hr2 hr3 hc1 hc2 hc3
 have HI := Aside0.mk hi
 have HA := Aside0.mk ha
 have HL := Aside0.mk hl
 have HF := Aside0.mk hf
 clear hi ha hl hf
 go_enter Try.func32, Try.ntmps32
 go_wp2_with fail
 ((with_reducible refine (impl_in.calls (keys.length : Int) 1 4 true _ HI.out).mono ?_); rintro e w1 ⟨rfl, nd1, rfl⟩)
 have HB1 := Aside0.mk (show Below w.heap.size w _ from pw_below_drewN (below_alloc (Below.refl w.heap.size w) (.cells #[.bool false, .slice A1 keys.length c1, .slice A2 vals.length c2, .slice A3 kids.length c3] 68)) nd1)
 have BK1 := Aside0.mk (blk_drewN (blk_new w (.cells #[.bool false, .slice A1 keys.length c1, .slice A2 vals.length c2, .slice A3 kids.length c3] 68)) nd1)
 go_wp2_with fail
 ((with_reducible refine (impl_ascending.calls A1 c1 keys true _ (Kd.C_below HR1.out HB1.out) HC1.out HA.out).mono ?_); rintro e w2 ⟨rfl, hb2⟩)
 obtain ⟨hcell2, hfr2⟩ := bcell hb2
 have hz2 : w.heap.size < w2.heap.size := by have hh := hb2.size; (try simp at hh); omega
 have HB2 := Aside0.mk (below_step HB1.out hb2)
 have BK2 := Aside0.mk (blk_below BK1.out hb2)
 clear hb2
 go_wp2_with fail
 ((with_reducible refine (impl_longer.calls A1 c1 keys 24 false _ (Kd.C_below HR1.out HB2.out) HC1.out HL.out).mono ?_); rintro e w3 ⟨rfl, hb3⟩)
 obtain ⟨hcell3, hfr3⟩ := bcell hb3
 have hz3 : w.heap.size < w3.heap.size := by have hh := hb3.size; (try simp at hh); omega
 have HB3 := Aside0.mk (below_step HB2.out hb3)
 have BK3 := Aside0.mk (blk_below BK2.out hb3)
 clear hb3
 go_wp2_with fail
 go_loopg [45] kids.length (fun gg s45 wr => ∃ kk : Nat, kk ≤ kids.length ∧ kids.length - kk ≤ gg ∧ s45 = .int .i64 kk ∧ Aside0 (Below w.heap.size w wr) ∧ Aside0 (wr.heap[w.heap.size]? = some (.cells #[.bool false, .slice A1 keys.length c1, .slice A2 vals.length c2, .slice A3 kids.length c3] 68 (0, 0))) ∧ Aside0 (∀ j (hj : j < kids.length), j < kk → 2 ≤ kids[j] ∧ kids[j] ≤ 39 ∧ (kids.take j).contains kids[j] = false))
 case atStart => exact ⟨0, Nat.zero_le _, by omega, rfl, HB3, BK3, ⟨fun j hj h => absurd h (Nat.not_lt_zero _)⟩⟩
 case round =>
  obtain ⟨kk, hkk, hg, rfl, HB, BK, A⟩ := hrel
  have hcn0 : wr.cell? ⟨w.heap.size, 1, none⟩ = some (.slice A1 keys.length c1) := (blk_cell BK.out 1).trans rfl
  have hcn1 : wr.cell? ⟨w.heap.size, 2, none⟩ = some (.slice A2 vals.length c2) := (blk_cell BK.out 2).trans rfl
  have hcn2 : wr.cell? ⟨w.heap.size, 3, none⟩ = some (.slice A3 kids.length c3) := (blk_cell BK.out 3).trans rfl
  by_cases hlt : kk < kids.length
  ·have hltz : (kk : Int) < (kids.length : Int) := by omega
   obtain ⟨ad, rfl, hcell⟩ := Kd.at_int (Kd.C_below HR3.out HB.out) (kk : Int) (by omega) hltz
   rw [Int.toNat_natCast] at hcell
   have hrd : rd kids (kk : Int) = kids[kk] := by simp [rd, List.getD_eq_getElem?_getD, List.getElem?_eq_getElem hlt]
   obtain ⟨y, hy⟩ : ∃ y, rd kids (kk : Int) = y := ⟨_, rfl⟩
   rw [hy] at hcell hrd
   have HY := Aside0.mk hrd
   clear hy hrd
   cases hin : decide (2 ≤ y ∧ y ≤ 39) with
   | false =>
    have HQ := Aside0.mk (show impl_in.f y 2 39 = some false by
     unfold impl_in.f
     have := of_decide_eq_false hin
     split
     ·congr 1; exact decide_eq_false (by omega)
     ·rfl)
    go_wp2_with fail
    ((with_reducible refine (impl_in.calls y 2 39 false _ HQ.out).mono ?_); rintro e w1 ⟨rfl, nd2, rfl⟩)
    go_wp2
    go_ret
    refine ⟨?_, pw_below_drewN HB.out nd2⟩
    rw [HF.out.2 (fun hP => by
     have h1 := hP.2.2 kk hlt
     have := of_decide_eq_false hin
     rw [HY.out] at this
     exact this ⟨h1.1, h1.2.1⟩)]
    rfl
   | true =>
    have HQ := Aside0.mk (show impl_in.f y 2 39 = some true by
     unfold impl_in.f
     have := of_decide_eq_true hin
     rw [if_pos (show y ≥ 2 by omega)]
     congr 1; exact decide_eq_true (by omega))
    cases hcon : (kids.take kk).contains y with
    | true =>
     obtain ⟨kf, hkf⟩ := contains_ev (kids.take kk) y true hcon (by rw [List.length_take]; have := (HR3.out).2.1; omega)
     have hlk : (kids.take kk).length = kk := by rw [List.length_take]; omega
     have hcall : ∀ nd, Calls Try.prog 75 #[.slice (some ad) kk c3, .int .i64 y] (wr.drewN nd) fun e w' => e = .returned (.bool true) ∧ Drawn0 (wr.drewN nd) w' := by
      intro nd
      have h := slices_Contains_int_int.calls kf (some ad) c3 (kids.take kk) y true (wr.drewN nd) (Kd.C_take (Kd.C_below HR3.out (pw_below_drewN HB.out nd)) (by omega)) (by rw [hlk]; have := HC3.out; omega) hkf
      rw [hlk] at h
      exact h
     have HK := Aside0.mk hcall
     have HCON := Aside0.mk hcon
     have hle : kk ≤ c3 := by have := HC3.out; omega
     have hlez : (kk : Int) ≤ (c3 : Int) := by omega
     clear hkf hlk hcall hcon
     go_wp2_with fail
     ((with_reducible refine (impl_in.calls y 2 39 true _ HQ.out).mono ?_); rintro e w1 ⟨rfl, nd2, rfl⟩)
     go_wp2_with fail
     ((with_reducible refine (HK.out nd2).mono ?_); rintro e w1 ⟨rfl, nd3, rfl⟩)
     go_wp2
     go_ret
     refine ⟨?_, pw_below_drewN HB.out _⟩
     rw [HF.out.2 (fun hP => by
      have h1 := (hP.2.2 kk hlt).2.2
      rw [← HY.out, HCON.out] at h1
      cases h1)]
     rfl
    | false =>
     obtain ⟨kf, hkf⟩ := contains_ev (kids.take kk) y false hcon (by rw [List.length_take]; have := (HR3.out).2.1; omega)
     have hlk : (kids.take kk).length = kk := by rw [List.length_take]; omega
     have hcall : ∀ nd, Calls Try.prog 75 #[.slice (some ad) kk c3, .int .i64 y] (wr.drewN nd) fun e w' => e = .returned (.bool false) ∧ Drawn0 (wr.drewN nd) w' := by
      intro nd
      have h := slices_Contains_int_int.calls kf (some ad) c3 (kids.take kk) y false (wr.drewN nd) (Kd.C_take (Kd.C_below HR3.out (pw_below_drewN HB.out nd)) (by omega)) (by rw [hlk]; have := HC3.out; omega) hkf
      rw [hlk] at h
      exact h
     have HK := Aside0.mk hcall
     have HCON := Aside0.mk hcon
     have hle : kk ≤ c3 := by have := HC3.out; omega
     have hlez : (kk : Int) ≤ (c3 : Int) := by omega
     clear hkf hlk hcall hcon
     go_wp2_with fail
     ((with_reducible refine (impl_in.calls y 2 39 true _ HQ.out).mono ?_); rintro e w1 ⟨rfl, nd2, rfl⟩)
     go_wp2_with fail
     ((with_reducible refine (HK.out nd2).mono ?_); rintro e w1 ⟨rfl, nd3, rfl⟩)
     go_wp2
     have hw : wrap64 ((kk : Int) + 1) = ((kk + 1 : Nat) : Int) := by have := (HR3.out).2.1; unfold wrap64; omega
     go_roundg (kids.length - (kk + 1))
     case measure => omega
     case rel =>
      refine ⟨kk + 1, by omega, by omega, by first | rfl | exact congrArg (Value.int .i64) hw, ⟨pw_below_drewN HB.out _⟩, ⟨blk_drewN BK.out _⟩, ⟨fun j hj hjk => ?_⟩⟩
      by_cases e : j = kk
      ·subst e
       have := of_decide_eq_true hin
       rw [← HY.out]
       exact ⟨this.1, this.2, HCON.out⟩
      ·exact A.out j hj (by omega)
  ·have hltz : ¬ (kk : Int) < (kids.length : Int) := by omega
   have : kk = kids.length := by omega
   subst this
   by_cases hn : kids.length = keys.length
   ·have hnb : ((kids.length : Int) == (keys.length : Int)) = true := beq_iff_eq.2 (by omega)
    have HN := Aside0.mk hn
    clear hn
    by_cases hv : vals.length = 0
    ·have hvb : ((vals.length : Int) == 0) = true := beq_iff_eq.2 (by omega)
     have hr1 : r = true := HF.out.1 ⟨HN.out, hv, fun i h => A.out i h h⟩
     subst hr1
     have HV := Aside0.mk hv
     clear hv
     go_wp2
     go_ret
     exact ⟨by first | rfl | simp [HV.out, HN.out], HB.out⟩
    ·have hvb : ((vals.length : Int) == 0) = false := beq_eq_false_iff_ne.2 (by omega)
     have hr1 : r = false := HF.out.2 (fun hP => hv hP.2.1)
     subst hr1
     have HV := Aside0.mk hv
     go_wp2
     go_ret
     exact ⟨by first | rfl | simp [HV.out, HN.out], HB.out⟩
   ·have hnz : ¬ (kids.length : Int) = (keys.length : Int) := by omega
    have hnb : ((kids.length : Int) == (keys.length : Int)) = false := beq_eq_false_iff_ne.2 hnz
    have hnd : decide ((kids.length : Int) = (keys.length : Int)) = false := decide_eq_false hnz
    have hr1 : r = false := HF.out.2 (fun hP => hn hP.1)
    subst hr1
    have HN := Aside0.mk hn
    go_wp2
    go_ret
    exact ⟨by first | rfl | simp [HN.out], HB.out⟩
def branchB (keys vals : List ByteArray) (kids : List Int) : Bool := decide (kids.length = keys.length) && decide (vals.length = 0) && (List.range kids.length).all fun i => decide (2 ≤ kids.getD i 0 ∧ kids.getD i 0 ≤ 39) && !((kids.take i).contains (kids.getD i 0))
theorem branchB_iff (keys vals : List ByteArray) (kids : List Int) : branchB keys vals kids = true ↔ BranchOk keys vals kids := by
 unfold branchB BranchOk
 simp only [Bool.and_eq_true, decide_eq_true_eq, List.all_eq_true, List.mem_range, Bool.not_eq_true', and_assoc]
 refine and_congr_right fun _ => and_congr_right fun _ => ?_
 constructor
 ·intro h i hi
  have := h i hi
  simpa [List.getD_eq_getElem?_getD, List.getElem?_eq_getElem hi] using this
 ·intro h i hi
  simpa [List.getD_eq_getElem?_getD, List.getElem?_eq_getElem hi] using h i hi
def longB (l : List ByteArray) : Bool := l.any fun s => decide ((s.size : Int) > 24)
def nodeOkB (leaf : Bool) (keys vals : List ByteArray) (kids : List Int) : Bool :=
 decide (1 ≤ keys.length ∧ keys.length ≤ 4) && ascB keys && !longB keys && (if leaf = true then decide (vals.length = keys.length) && !longB vals && decide (kids.length = 0) else branchB keys vals kids)
def impl_NodeOk.f (leaf : Bool) (keys vals : List ByteArray) (kids : List Int) : Option Bool := some (nodeOkB leaf keys vals kids)
theorem impl_NodeOk.calls (a0_0 : Bool) (A0_1 : Option Addr) (c0_1 : Nat) (l0_1 : List ByteArray) (A0_2 : Option Addr) (c0_2 : Nat) (l0_2 : List ByteArray) (A0_3 : Option Addr) (c0_3 : Nat) (l0_3 : List Int) (r : Bool) (w : World) (hr0_1 : Kd.C Kd.string w A0_1 l0_1.length l0_1) (hc0_1 : l0_1.length ≤ c0_1) (hr0_2 : Kd.C Kd.string w A0_2 l0_2.length l0_2) (hc0_2 : l0_2.length ≤ c0_2) (hr0_3 : Kd.C (Kd.int .i64) w A0_3 l0_3.length l0_3) (hc0_3 : l0_3.length ≤ c0_3) (h : impl_NodeOk.f a0_0 l0_1 l0_2 l0_3 = some r) :
  Calls Try.prog 32 #[.agg #[.bool a0_0, .slice A0_1 l0_1.length c0_1, .slice A0_2 l0_2.length c0_2, .slice A0_3 l0_3.length c0_3]] w fun e w' => e = .returned (.bool r) ∧ Below w.heap.size w w' := by
 obtain rfl := Option.some.inj h
 clear h
 have hI : ∀ b, decide (1 ≤ l0_1.length ∧ l0_1.length ≤ 4) = b → impl_in.f (l0_1.length : Int) 1 4 = some b := by
  intro b hb
  unfold impl_in.f
  subst hb
  by_cases h1 : (l0_1.length : Int) ≥ 1
  ·rw [if_pos h1]
   congr 1
   exact decide_eq_decide.2 ⟨fun _ => by omega, fun _ => by omega⟩
  ·rw [if_neg h1, decide_eq_false (by omega)]
 unfold nodeOkB
 cases b1 : decide (1 ≤ l0_1.length ∧ l0_1.length ≤ 4) with
 | false => exact nodeOk_in a0_0 A0_1 c0_1 l0_1 A0_2 c0_2 l0_2 A0_3 c0_3 l0_3 w hr0_1 hc0_1 hr0_2 hc0_2 hr0_3 hc0_3 (hI _ b1)
 | true =>
  have i1 := hI _ b1
  cases b2 : ascB l0_1 with
  | false => exact nodeOk_asc a0_0 A0_1 c0_1 l0_1 A0_2 c0_2 l0_2 A0_3 c0_3 l0_3 w hr0_1 hc0_1 hr0_2 hc0_2 hr0_3 hc0_3 i1 (congrArg some b2)
  | true =>
   cases b3 : longB l0_1 with
   | true => exact nodeOk_lng a0_0 A0_1 c0_1 l0_1 A0_2 c0_2 l0_2 A0_3 c0_3 l0_3 w hr0_1 hc0_1 hr0_2 hc0_2 hr0_3 hc0_3 i1 (congrArg some b2) (congrArg some b3)
   | false =>
    cases a0_0 with
    | true =>
     by_cases b4 : l0_2.length = l0_1.length
     ·cases b5 : longB l0_2 with
      | true =>
       have := nodeOk_leaf_lng true A0_1 c0_1 l0_1 A0_2 c0_2 l0_2 A0_3 c0_3 l0_3 w hr0_1 hc0_1 hr0_2 hc0_2 hr0_3 hc0_3 i1 (congrArg some b2) (congrArg some b3) b4 (congrArg some b5)
       simpa [b4] using this
      | false =>
       have := nodeOk_leaf true A0_1 c0_1 l0_1 A0_2 c0_2 l0_2 A0_3 c0_3 l0_3 w hr0_1 hc0_1 hr0_2 hc0_2 hr0_3 hc0_3 i1 (congrArg some b2) (congrArg some b3) b4 (congrArg some b5) _ rfl
       simpa [b4] using this
     ·have := nodeOk_leaf_len true A0_1 c0_1 l0_1 A0_2 c0_2 l0_2 A0_3 c0_3 l0_3 w hr0_1 hc0_1 hr0_2 hc0_2 hr0_3 hc0_3 i1 (congrArg some b2) (congrArg some b3) b4
      simpa [b4] using this
    | false =>
     have := nodeOk_branch false A0_1 c0_1 l0_1 A0_2 c0_2 l0_2 A0_3 c0_3 l0_3 w hr0_1 hc0_1 hr0_2 hc0_2 hr0_3 hc0_3 i1 (congrArg some b2) (congrArg some b3) (branchB l0_1 l0_2 l0_3)
      ⟨fun q => (branchB_iff _ _ _).2 q, fun q => by cases hh : branchB l0_1 l0_2 l0_3 with | false => rfl | true => exact absurd ((branchB_iff _ _ _).1 hh) q⟩
     simpa using this
theorem rdOf_cast {α : Type} (d : α) (xs : List α) (i : Nat) : rdOf d xs (i : Int) = xs.getD i d := by simp [rdOf]
theorem rd_cast (xs : List Int) (i : Nat) : rd xs (i : Int) = xs.getD i 0 := by simp [rd]
theorem wS {i : Nat} (h : i < 1000000) : wrap64 ((i : Int) + 1) = ((i + 1 : Nat) : Int) := by rw [w64 (by omega) (by omega)]; omega
def NCond (leaf : Bool) (keys vals : List ByteArray) (kids : List Int) (j : Nat) : Prop :=
 (keys.getD j ByteArray.empty).size ≤ 24 ∧ (0 < j → lessB (keys.getD (j - 1) ByteArray.empty) (keys.getD j ByteArray.empty) = true) ∧ (leaf = true → (vals.getD j ByteArray.empty).size ≤ 24) ∧
  (leaf = false → 2 ≤ kids.getD j 0 ∧ kids.getD j 0 ≤ 39 ∧ ∀ q, q < j → kids.getD q 0 ≠ kids.getD j 0)
section
variable {leaf : Bool} {keys vals : List ByteArray} {kids : List Int} {n : Nat}
theorem l1_dup (i : Nat) (hi : i < kids.length) (hk : kids.length < 1000000) : ∀ d m, m + d = i → (∃ q, m ≤ q ∧ q < i ∧ kids.getD q 0 = kids.getD i 0) → Ev (fun k => spec_NodeOk.l1 k (n : Int) (i : Int) (m : Int) leaf keys vals kids) false := by
 intro d
 induction d with
 | zero =>
  rintro m hm ⟨q, h1, h2, _⟩
  omega
 | succ d ih =>
  rintro m hm ⟨q, h1, h2, h3⟩
  have c1 : (m : Int) < (i : Int) := by omega
  have c2 : (0 : Int) ≤ (m : Int) := by omega
  have c3 : (m : Int) < (kids.length : Int) := by omega
  have c4 : (0 : Int) ≤ (i : Int) := by omega
  have c5 : (i : Int) < (kids.length : Int) := by omega
  by_cases h : kids.getD m 0 = kids.getD i 0
  ·refine Ev.step (f := fun _ => some false) (fun k => ?_) (Ev.now _)
   rw [spec_NodeOk.l1, if_pos c1, if_pos c2, if_pos c3, if_pos c4, if_pos c5, rd_cast, rd_cast, if_pos h]
  ·refine Ev.step (fun k => ?_) (ih (m + 1) (by omega) ⟨q, by
    have : q ≠ m := fun e => h (e ▸ h3)
    omega, h2, h3⟩)
   rw [spec_NodeOk.l1, if_pos c1, if_pos c2, if_pos c3, if_pos c4, if_pos c5, rd_cast, rd_cast, if_neg h, wS (by omega)]
theorem l1_free (i : Nat) (hi : i < kids.length) (hk : kids.length < 1000000) {r : Bool} (hr : Ev (fun k => spec_NodeOk.l0 k (n : Int) ((i + 1 : Nat) : Int) leaf keys vals kids) r) : ∀ d m, m + d = i → (∀ q, m ≤ q → q < i → kids.getD q 0 ≠ kids.getD i 0) → Ev (fun k => spec_NodeOk.l1 k (n : Int) (i : Int) (m : Int) leaf keys vals kids) r := by
 intro d
 induction d with
 | zero =>
  intro m hm _
  have c1 : ¬ (m : Int) < (i : Int) := by omega
  refine Ev.step (fun k => ?_) hr
  rw [spec_NodeOk.l1, if_neg c1, wS (by omega)]
 | succ d ih =>
  intro m hm hq
  have c1 : (m : Int) < (i : Int) := by omega
  have c2 : (0 : Int) ≤ (m : Int) := by omega
  have c3 : (m : Int) < (kids.length : Int) := by omega
  have c4 : (0 : Int) ≤ (i : Int) := by omega
  have c5 : (i : Int) < (kids.length : Int) := by omega
  refine Ev.step (fun k => ?_) (ih (m + 1) (by omega) (fun q h1 h2 => hq q (by omega) h2))
  rw [spec_NodeOk.l1, if_pos c1, if_pos c2, if_pos c3, if_pos c4, if_pos c5, rd_cast, rd_cast, if_neg (hq m (Nat.le_refl _) (by omega)), wS (by omega)]
theorem specOk_ev (hn : n = keys.length) (hn4 : n ≤ 4) (hv : leaf = true → vals.length = n) (hk : leaf = false → kids.length = n) : ∀ d i, i + d = n → ∃ r, Ev (fun k => spec_NodeOk.l0 k (n : Int) (i : Int) leaf keys vals kids) r ∧ (r = true ↔ ∀ j, i ≤ j → j < n → NCond leaf keys vals kids j) := by
 intro d
 induction d with
 | zero =>
  intro i hi
  refine ⟨true, Ev.step (f := fun _ => some true) (fun k => ?_) (Ev.now _), by simp; omega⟩
  have c : ¬ (i : Int) < (n : Int) := by omega
  rw [spec_NodeOk.l0, if_neg c]
 | succ d ih =>
  intro i hi
  obtain ⟨r, hr, hrr⟩ := ih (i + 1) (by omega)
  have c1 : (i : Int) < (n : Int) := by omega
  have c2 : (0 : Int) ≤ (i : Int) := by omega
  have c3 : (i : Int) < (keys.length : Int) := by omega
  have hsplit : (∀ j, i ≤ j → j < n → NCond leaf keys vals kids j) ↔ (NCond leaf keys vals kids i ∧ ∀ j, i + 1 ≤ j → j < n → NCond leaf keys vals kids j) := by
   constructor
   ·exact fun h => ⟨h i (Nat.le_refl _) (by omega), fun j h1 h2 => h j (by omega) h2⟩
   ·rintro ⟨h1, h2⟩ j h3 h4
    by_cases e : j = i
    ·subst e; exact h1
    ·exact h2 j (by omega) h4
  -- a refusal at the key
  have j2no : Ev (fun k => spec_NodeOk.j2 k (n : Int) (i : Int) true leaf keys vals kids) false := Ev.step (f := fun _ => some false) (fun k => by rw [spec_NodeOk.j2, if_pos rfl]) (Ev.now _)
  have j3no : Ev (fun k => spec_NodeOk.j3 k (n : Int) (i : Int) true leaf keys vals kids) false := Ev.step (f := fun _ => some false) (fun k => by rw [spec_NodeOk.j3, if_pos rfl]) (Ev.now _)
  have hno : ∀ (hc : ¬ NCond leaf keys vals kids i), (false = true ↔ ∀ j, i ≤ j → j < n → NCond leaf keys vals kids j) := fun hc => by
   rw [hsplit]
   exact ⟨fun h => (by cases h), fun h => absurd h.1 hc⟩
  -- behind the keys
  have hj2 : ∃ r', Ev (fun k => spec_NodeOk.j2 k (n : Int) (i : Int) false leaf keys vals kids) r' ∧ (r' = true ↔ ((leaf = true → (vals.getD i ByteArray.empty).size ≤ 24) ∧ (leaf = false → 2 ≤ kids.getD i 0 ∧ kids.getD i 0 ≤ 39 ∧ ∀ q, q < i → kids.getD q 0 ≠ kids.getD i 0)) ∧ ∀ j, i + 1 ≤ j → j < n → NCond leaf keys vals kids j) := by
   cases leaf with
   | true =>
    have c4 : (i : Int) < (vals.length : Int) := by have := hv rfl; omega
    by_cases h : (vals.getD i ByteArray.empty).size ≤ 24
    ·refine ⟨r, Ev.step (f := fun k => spec_NodeOk.j3 k (n : Int) (i : Int) false true keys vals kids) (fun k => ?_) (Ev.step (fun k => ?_) hr), ?_⟩
     ·rw [spec_NodeOk.j2, if_neg (by simp), if_pos rfl, if_pos c2, if_pos c4, rdOf_cast, decide_eq_false (by omega)]
     ·rw [spec_NodeOk.j3, if_neg (by simp), if_pos rfl, wS (by omega)]
     ·rw [hrr]
      exact ⟨fun q => ⟨⟨fun _ => h, (fun q => by cases q)⟩, q⟩, fun q => q.2⟩
    ·refine ⟨false, Ev.step (fun k => ?_) j3no, ?_⟩
     ·rw [spec_NodeOk.j2, if_neg (by simp), if_pos rfl, if_pos c2, if_pos c4, rdOf_cast, decide_eq_true (by omega)]
     ·exact ⟨(fun q => by cases q), fun q => absurd (q.1.1 rfl) h⟩
   | false =>
    have hkl := hk rfl
    have c4 : (i : Int) < (kids.length : Int) := by omega
    have s2 : ∀ k, spec_NodeOk.j2 (k + 1) (n : Int) (i : Int) false false keys vals kids = spec_NodeOk.j3 k (n : Int) (i : Int) false false keys vals kids := fun k => by
     rw [spec_NodeOk.j2, if_neg (by simp), if_neg (by simp)]
    by_cases h : 2 ≤ kids.getD i 0 ∧ kids.getD i 0 ≤ 39
    ·have s3 : ∀ k, spec_NodeOk.j3 (k + 1) (n : Int) (i : Int) false false keys vals kids = spec_NodeOk.l1 k (n : Int) (i : Int) ((0 : Nat) : Int) false keys vals kids := fun k => by
      rw [spec_NodeOk.j3, if_neg (by simp), if_neg (by simp), if_pos c2, if_pos c4, rd_cast]
      unfold spec_l01In.f
      rw [if_pos h.1, decide_eq_true h.2, Option.bind_some, if_pos rfl]
      rfl
     by_cases h2 : ∃ q, 0 ≤ q ∧ q < i ∧ kids.getD q 0 = kids.getD i 0
     ·refine ⟨false, Ev.step s2 (Ev.step s3 (l1_dup i (by omega) (by omega) i 0 (by omega) h2)), ?_⟩
      refine ⟨(fun q => by cases q), fun q => ?_⟩
      obtain ⟨q0, _, h3, h4⟩ := h2
      exact absurd h4 ((q.1.2 rfl).2.2 q0 h3)
     ·refine ⟨r, Ev.step s2 (Ev.step s3 (l1_free i (by omega) (by omega) hr i 0 (by omega) (fun q h3 h4 h5 => h2 ⟨q, h3, h4, h5⟩))), ?_⟩
      rw [hrr]
      exact ⟨fun q => ⟨⟨(fun q => by cases q), fun _ => ⟨h.1, h.2, fun q h4 h5 => h2 ⟨q, Nat.zero_le _, h4, h5⟩⟩⟩, q⟩, fun q => q.2⟩
    ·have s3 : ∀ k, spec_NodeOk.j3 (k + 1) (n : Int) (i : Int) false false keys vals kids = some false := fun k => by
      rw [spec_NodeOk.j3, if_neg (by simp), if_neg (by simp), if_pos c2, if_pos c4, rd_cast]
      unfold spec_l01In.f
      by_cases h3 : kids.getD i 0 ≥ 2
      ·rw [if_pos h3, decide_eq_false (by omega), Option.bind_some, if_neg (by simp)]
      ·rw [if_neg h3, Option.bind_some, if_neg (by simp)]
     refine ⟨false, Ev.step s2 (Ev.step (f := fun _ => some false) s3 (Ev.now _)), ?_⟩
     exact ⟨(fun q => by cases q), fun q => absurd ⟨(q.1.2 rfl).1, (q.1.2 rfl).2.1⟩ h⟩
  by_cases h1 : (keys.getD i ByteArray.empty).size ≤ 24
  ·have c5 : ¬ ((keys.getD i ByteArray.empty).size : Int) > 24 := by omega
   by_cases h0 : 0 < i
   ·have e1 : wrap64 ((i : Int) - 1) = ((i - 1 : Nat) : Int) := by rw [w64 (by omega) (by omega)]; omega
    have c6 : (i : Int) > 0 := by omega
    have c7 : (0 : Int) ≤ ((i - 1 : Nat) : Int) := by omega
    have c8 : ((i - 1 : Nat) : Int) < (keys.length : Int) := by omega
    have s0 : ∀ k, spec_NodeOk.l0 (k + 1) (n : Int) (i : Int) leaf keys vals kids = spec_NodeOk.j2 k (n : Int) (i : Int) (!(lessB (keys.getD (i - 1) ByteArray.empty) (keys.getD i ByteArray.empty))) leaf keys vals kids := fun k => by
     rw [spec_NodeOk.l0, if_pos c1, if_pos c2, if_pos c3, rdOf_cast, if_neg c5, if_pos c6, e1, if_pos c7, if_pos c8, rdOf_cast]
     rfl
    cases hless : lessB (keys.getD (i - 1) ByteArray.empty) (keys.getD i ByteArray.empty) with
    | true =>
     rw [hless] at s0
     obtain ⟨r', hr', hi'⟩ := hj2
     refine ⟨r', Ev.step s0 hr', ?_⟩
     rw [hi', hsplit]
     exact ⟨fun q => ⟨⟨h1, fun _ => hless, q.1.1, q.1.2⟩, q.2⟩, fun q => ⟨⟨q.1.2.2.1, q.1.2.2.2⟩, q.2⟩⟩
    | false =>
     rw [hless] at s0
     refine ⟨false, Ev.step s0 j2no, hno (fun q => ?_)⟩
     have := q.2.1 h0
     rw [hless] at this
     cases this
   ·have c6 : ¬ (i : Int) > 0 := by omega
    obtain ⟨r', hr', hi'⟩ := hj2
    refine ⟨r', Ev.step (fun k => ?_) hr', ?_⟩
    ·rw [spec_NodeOk.l0, if_pos c1, if_pos c2, if_pos c3, rdOf_cast, if_neg c5, if_neg c6]
    ·rw [hi', hsplit]
     exact ⟨fun q => ⟨⟨h1, fun z => absurd z h0, q.1.1, q.1.2⟩, q.2⟩, fun q => ⟨⟨q.1.2.2.1, q.1.2.2.2⟩, q.2⟩⟩
  ·have c5 : ((keys.getD i ByteArray.empty).size : Int) > 24 := by omega
   refine ⟨false, Ev.step (fun k => ?_) j2no, hno (fun q => h1 q.1)⟩
   rw [spec_NodeOk.l0, if_pos c1, if_pos c2, if_pos c3, rdOf_cast, if_pos c5]
end
def NShape (leaf : Bool) (keys vals : List ByteArray) (kids : List Int) : Prop := (1 ≤ keys.length ∧ keys.length ≤ 4) ∧ (leaf = true → vals.length = keys.length ∧ kids.length = 0) ∧ (leaf = false → kids.length = keys.length ∧ vals.length = 0)
theorem long_iff (l : List ByteArray) : longB l = false ↔ ∀ j, j < l.length → (l.getD j ByteArray.empty).size ≤ 24 := by
 unfold longB
 rw [List.any_eq_false]
 constructor
 ·intro h j hj
  have := h l[j] (List.getElem_mem hj)
  simp only [decide_eq_true_eq] at this
  rw [List.getD_eq_getElem?_getD, List.getElem?_eq_getElem hj]
  simp only [Option.getD_some]
  omega
 ·intro h x hx
  obtain ⟨j, hj, rfl⟩ := List.getElem_of_mem hx
  have := h j hj
  rw [List.getD_eq_getElem?_getD, List.getElem?_eq_getElem hj] at this
  simp only [Option.getD_some] at this
  simp only [decide_eq_true_eq]
  omega
theorem asc_iff (l : List ByteArray) : Asc l ↔ ∀ j, j < l.length → 0 < j → lessB (l.getD (j - 1) ByteArray.empty) (l.getD j ByteArray.empty) = true := by
 have hg : ∀ j (h : j < l.length), l.getD j ByteArray.empty = l[j] := fun j h => by rw [List.getD_eq_getElem?_getD, List.getElem?_eq_getElem h]; rfl
 constructor
 ·intro h j hj h0
  obtain ⟨m, rfl⟩ : ∃ m, j = m + 1 := ⟨j - 1, by omega⟩
  rw [hg _ hj, Nat.add_sub_cancel, hg m (by omega)]
  exact h m hj
 ·intro h j hj
  have := h (j + 1) hj (by omega)
  rw [hg _ hj, Nat.add_sub_cancel, hg j (by omega)] at this
  exact this
theorem nodeOk_iff (leaf : Bool) (keys vals : List ByteArray) (kids : List Int) : nodeOkB leaf keys vals kids = true ↔ NShape leaf keys vals kids ∧ ∀ j, j < keys.length → NCond leaf keys vals kids j := by
 unfold nodeOkB NShape NCond
 have hg : ∀ j (h : j < kids.length), kids.getD j 0 = kids[j] := fun j h => by rw [List.getD_eq_getElem?_getD, List.getElem?_eq_getElem h]; rfl
 rw [Bool.and_eq_true, Bool.and_eq_true, Bool.and_eq_true, decide_eq_true_eq, ascB_iff, asc_iff, Bool.not_eq_true', long_iff]
 cases leaf with
 | true =>
  rw [if_pos rfl, Bool.and_eq_true, Bool.and_eq_true, decide_eq_true_eq, decide_eq_true_eq, Bool.not_eq_true', long_iff]
  constructor
  ·rintro ⟨⟨⟨h1, h2⟩, h3⟩, ⟨h4, h5⟩, h6⟩
   exact ⟨⟨h1, fun _ => ⟨h4, h6⟩, (fun q => by cases q)⟩, fun j hj => ⟨h3 j hj, h2 j hj, fun _ => h5 j (by omega), (fun q => by cases q)⟩⟩
  ·rintro ⟨⟨h1, h2, _⟩, h3⟩
   have h4 := h2 rfl
   exact ⟨⟨⟨h1, fun j hj => (h3 j hj).2.1⟩, fun j hj => (h3 j hj).1⟩, ⟨h4.1, fun j hj => (h3 j (by omega)).2.2.1 rfl⟩, h4.2⟩
 | false =>
  rw [if_neg (by simp), branchB_iff]
  unfold BranchOk
  have hcon : ∀ j (h : j < kids.length), ((kids.take j).contains kids[j] = false ↔ ∀ q, q < j → kids.getD q 0 ≠ kids.getD j 0) := by
   intro j h
   rw [hg j h, Bool.eq_false_iff, Ne, List.contains_iff_mem]
   constructor
   ·intro hm q hq he
    apply hm
    rw [hg q (by omega)] at he
    rw [← he]
    exact List.mem_take_iff_getElem.2 ⟨q, by omega, rfl⟩
   ·intro hm hmem
    obtain ⟨q, hq, he⟩ := List.mem_take_iff_getElem.1 hmem
    have := hm q (by omega)
    rw [hg q (by omega)] at this
    exact this he
  constructor
  ·rintro ⟨⟨⟨h1, h2⟩, h3⟩, h4, h5, h6⟩
   refine ⟨⟨h1, (fun q => by cases q), fun _ => ⟨h4, h5⟩⟩, fun j hj => ⟨h3 j hj, h2 j hj, (fun q => by cases q), fun _ => ?_⟩⟩
   have := h6 j (by omega)
   rw [hcon j (by omega)] at this
   rw [hg j (by omega)] at this ⊢
   exact this
  ·rintro ⟨⟨h1, _, h2⟩, h3⟩
   have h4 := h2 rfl
   refine ⟨⟨⟨h1, fun j hj => (h3 j hj).2.1⟩, fun j hj => (h3 j hj).1⟩, h4.1, h4.2, fun j hj => ?_⟩
   have := (h3 j (by omega)).2.2.2 rfl
   rw [hcon j hj]
   rw [hg j hj] at this ⊢
   exact this
theorem spec_NodeOk_ev (leaf : Bool) (keys vals : List ByteArray) (kids : List Int) : Ev (fun k => spec_NodeOk.f k leaf keys vals kids) (nodeOkB leaf keys vals kids) := by
 have jno : Ev (fun k => spec_NodeOk.j0 k (keys.length : Int) true leaf keys vals kids) false := Ev.step (f := fun _ => some false) (fun k => by rw [spec_NodeOk.j0, if_pos rfl]) (Ev.now _)
 by_cases h1 : 1 ≤ keys.length ∧ keys.length ≤ 4
 ·have hin : spec_l01In.f (keys.length : Int) 1 4 = some true := by
   unfold spec_l01In.f
   rw [if_pos (by omega), decide_eq_true (by omega)]
  by_cases hs : NShape leaf keys vals kids
  ·obtain ⟨r, hr, hrr⟩ := specOk_ev (leaf := leaf) (keys := keys) (vals := vals) (kids := kids) rfl h1.2 (fun q => (hs.2.1 q).1) (fun q => (hs.2.2 q).1) keys.length 0 (by omega)
   have hres : nodeOkB leaf keys vals kids = r := by
    rw [Bool.eq_iff_iff, nodeOk_iff, hrr]
    exact ⟨fun q j _ hj => q.2 j hj, fun q => ⟨hs, fun j hj => q j (Nat.zero_le _) hj⟩⟩
   rw [hres]
   have hgo : Ev (fun k => spec_NodeOk.j0 k (keys.length : Int) false leaf keys vals kids) r := Ev.step (fun k => by rw [spec_NodeOk.j0, if_neg (by simp)]; rfl) hr
   refine Ev.congr (fun k => ?_) hgo
   unfold spec_NodeOk.f
   rw [hin, Option.bind_some, if_pos rfl]
   cases leaf with
   | true =>
    have h2 := hs.2.1 rfl
    rw [if_pos rfl, if_pos (by omega), if_pos (by omega)]
   | false =>
    have h2 := hs.2.2 rfl
    rw [if_neg (by simp), if_pos (by omega)]
    have : ((vals.length : Int) != 0) = false := by rw [h2.2]; rfl
    rw [this]
  ·have hres : nodeOkB leaf keys vals kids = false := by
    rw [Bool.eq_false_iff, Ne, nodeOk_iff]
    exact fun q => hs q.1
   rw [hres]
   refine Ev.congr (fun k => ?_) jno
   unfold spec_NodeOk.f
   rw [hin, Option.bind_some, if_pos rfl]
   cases leaf with
   | true =>
    rw [if_pos rfl]
    by_cases h2 : (vals.length : Int) = (keys.length : Int)
    ·rw [if_pos h2, if_neg (fun q => hs ⟨h1, fun _ => ⟨by omega, by omega⟩, (fun q => by cases q)⟩)]
    ·rw [if_neg h2]
   | false =>
    rw [if_neg (by simp)]
    by_cases h2 : (kids.length : Int) = (keys.length : Int)
    ·have : ((vals.length : Int) != 0) = true := by
      rw [bne_iff_ne]
      exact fun q => hs ⟨h1, (fun q => by cases q), fun _ => ⟨by omega, by omega⟩⟩
     rw [if_pos h2, this]
    ·rw [if_neg h2]
 ·have hres : nodeOkB leaf keys vals kids = false := by
   rw [Bool.eq_false_iff, Ne, nodeOk_iff]
   exact fun q => h1 q.1.1
  rw [hres]
  refine Ev.congr (fun k => ?_) jno
  unfold spec_NodeOk.f spec_l01In.f
  by_cases h2 : (keys.length : Int) ≥ 1
  ·rw [if_pos h2, decide_eq_false (by omega), Option.bind_some, if_neg (by simp)]
  ·rw [if_neg h2, Option.bind_some, if_neg (by simp)]
mutual
def impl_SumMore.l0 : Nat → Int → ByteArray → Int → Int → Option (Int)
 | 0, _, _, _, _ => none
 | k + 1, x0, x1, x8, x9 => if x9 < x8 then (if 0 ≤ x9 then (if x9 < (x1.size : Int) then (impl_SumMore.l1 k (Go.bits .xor .u32 x0 ((bt x1 x9) % 4294967296)) x1 x8 x9 0) else (none)) else (none)) else (some x0)
def impl_SumMore.l1 : Nat → Int → ByteArray → Int → Int → Int → Option (Int)
 | 0, _, _, _, _, _ => none
 | k + 1, x0, x1, x8, x9, x18 => if x18 < 8 then (if (Go.bits .and .u32 x0 1) = 1 then (impl_SumMore.l1 k (Go.bits .xor .u32 (x0 / 2) 3558460437) x1 x8 x9 (wrap64 (x18 + 1))) else (impl_SumMore.l1 k (x0 / 2) x1 x8 x9 (wrap64 (x18 + 1)))) else (impl_SumMore.l0 k x0 x1 x8 (wrap64 (x9 + 1)))
end
def impl_SumMore.f (k : Nat) (a0 : Int) (a1 : ByteArray) : Option (Int) := impl_SumMore.l0 k a0 a1 (a1.size : Int) 0
theorem impl_SumMore.mono_l : ∀ k, (∀ y0 y1 y2 y3, LeO (impl_SumMore.l0 k y0 y1 y2 y3) (impl_SumMore.l0 (k + 1) y0 y1 y2 y3)) ∧ (∀ y0 y1 y2 y3 y4, LeO (impl_SumMore.l1 k y0 y1 y2 y3 y4) (impl_SumMore.l1 (k + 1) y0 y1 y2 y3 y4))
 | 0 => ⟨fun _ _ _ _ r h => by simp [impl_SumMore.l0] at h, fun _ _ _ _ _ r h => by simp [impl_SumMore.l1] at h⟩
 | k + 1 => by
  obtain ⟨ih0, ih1⟩ := impl_SumMore.mono_l k
  refine ⟨?_, ?_⟩
  ·intro y0 y1 y2 y3
   unfold impl_SumMore.l0
   repeat' first
   | (with_reducible exact ih0 _ _ _ _)
   | (with_reducible exact ih1 _ _ _ _ _)
   | (with_reducible exact LeO.refl _)
   | (with_reducible exact LeO.none _)
   | (with_reducible refine LeO.ite ?_ ?_)
   | (with_reducible refine LeO.bind ?_ (fun _ => ?_))
   | exact ih0 _ _ _ _
   | exact ih1 _ _ _ _ _
  ·intro y0 y1 y2 y3 y4
   unfold impl_SumMore.l1
   repeat' first
   | (with_reducible exact ih0 _ _ _ _)
   | (with_reducible exact ih1 _ _ _ _ _)
   | (with_reducible exact LeO.refl _)
   | (with_reducible exact LeO.none _)
   | (with_reducible refine LeO.ite ?_ ?_)
   | (with_reducible refine LeO.bind ?_ (fun _ => ?_))
   | exact ih0 _ _ _ _
   | exact ih1 _ _ _ _ _
theorem impl_SumMore.mono : ∀ a0 a1 k, LeO (impl_SumMore.f k a0 a1) (impl_SumMore.f (k + 1) a0 a1) := by
 intro a0 a1 k
 obtain ⟨ih0, ih1⟩ := impl_SumMore.mono_l k
 unfold impl_SumMore.f
 repeat' first
   | (with_reducible exact ih0 _ _ _ _)
   | (with_reducible exact ih1 _ _ _ _ _)
   | (with_reducible exact LeO.refl _)
   | (with_reducible exact LeO.none _)
   | (with_reducible refine LeO.ite ?_ ?_)
   | (with_reducible refine LeO.bind ?_ (fun _ => ?_))
   | exact ih0 _ _ _ _
   | exact ih1 _ _ _ _ _
theorem impl_SumMore.calls (k : Nat) (a0 : Int) (a1 : ByteArray) (r : Int) (w : World) (h : impl_SumMore.f k a0 a1 = some r) :
  Calls Try.prog 153 #[.int .u32 a0, .string a1] w fun e w' => e = .returned (.int .u32 r) ∧ Drawn0 w w' := by
 have H : (impl_SumMore.l0 k a0 a1 (a1.size : Int) 0) = some r := h
 clear h
 have H' := Aside0.mk H
 clear H
 go_enter Try.func153, Try.ntmps153
 go_wp2
 go_loopg [0, 9] k (fun kq v0 v9 w' => ∃ (x0_1 : Int) (x9_1 : Int), v0 = .int .u32 x0_1 ∧ v9 = .int .i64 x9_1 ∧ Aside0 (impl_SumMore.l0 kq x0_1 a1 (a1.size : Int) x9_1 = some r) ∧ Aside0 (kq ≤ k) ∧ Drawn0 w w')
 case atStart => exact ⟨(a0), (0), (by first | rfl | (simp; done) | (simp [*]; done)), (by first | rfl | (simp; done) | (simp [*]; done)), H', ⟨Nat.le_refl _⟩, by repeat (first | exact Drawn0.refl _ | apply Drawn0.step)⟩
 case round =>
  clear H'
  obtain ⟨x0_1, x9_1, rfl, rfl, HA, HK1, ⟨m1, rfl⟩⟩ := hrel
  cases gk with
  | zero => exact absurd HA.out (by simp [impl_SumMore.l0])
  | succ k1 =>
   have H := HA.out
   clear HA
   simp only [impl_SumMore.l0] at H
   by_cases c3 : x9_1 < (a1.size : Int)
   ·rw [if_pos c3] at H
    have c3b0 : decide (x9_1 < (a1.size : Int)) = true := decide_eq_true c3
    clear c3
    by_cases c4 : 0 ≤ x9_1
    ·rw [if_pos c4] at H
     have c4b0 : decide (0 ≤ x9_1) = true := decide_eq_true c4
     clear c4
     by_cases c5 : x9_1 < (a1.size : Int)
     ·rw [if_pos c5] at H
      have c5b0 : decide (x9_1 < (a1.size : Int)) = true := decide_eq_true c5
      clear c5
      have H' := Aside0.mk H
      clear H
      have p6 : 0 ≤ (x9_1 : Int) := of_decide_eq_true (by with_reducible assumption)
      have q6 : x9_1 < (a1.size : Int) := of_decide_eq_true (by with_reducible assumption)
      have hx6 := bt_at a1 x9_1
      replace p6 := eq_true p6
      replace q6 := eq_true q6
      go_wp2
      go_loopg [0, 18] k1 (fun kq v0 v18 w' => ∃ (x0_2 : Int) (x18_2 : Int), v0 = .int .u32 x0_2 ∧ v18 = .int .i64 x18_2 ∧ Aside0 (impl_SumMore.l1 kq x0_2 a1 (a1.size : Int) x9_1 x18_2 = some r) ∧ Aside0 (kq ≤ k1) ∧ Drawn0 w w')
      case atStart => exact ⟨(Go.bits .xor .u32 x0_1 ((bt a1 x9_1) % 4294967296)), (0), (by first | rfl | (simp; done) | (simp [*]; done)), (by first | rfl | (simp; done) | (simp [*]; done)), H', ⟨Nat.le_refl _⟩, by repeat (first | exact Drawn0.refl _ | apply Drawn0.step)⟩
      case round =>
       clear H'
       try clear c3
       try clear c3b0
       try clear c4
       try clear c4b0
       try clear c5
       try clear c5b0
       try clear p6
       try clear q6
       try clear hx6
       try clear p6
       try clear q6
       obtain ⟨x0_2, x18_2, rfl, rfl, HA, HK2, ⟨m2, rfl⟩⟩ := hrel
       cases gk with
       | zero => exact absurd HA.out (by simp [impl_SumMore.l1])
       | succ k2 =>
        have H := HA.out
        clear HA
        simp only [impl_SumMore.l1] at H
        by_cases c7 : x18_2 < 8
        ·rw [if_pos c7] at H
         have c7b0 : decide (x18_2 < 8) = true := decide_eq_true c7
         clear c7
         by_cases c8 : (Go.bits .and .u32 x0_2 1) = 1
         ·rw [if_pos c8] at H
          have c8b0 : ((Go.bits .and .u32 x0_2 1) == 1) = true := beq_iff_eq.mpr c8
          have c8b1 : ((Go.bits .and .u32 x0_2 1) != 1) = false := bne_eq_false_iff_eq.mpr c8
          clear c8
          have H' := Aside0.mk H
          clear H
          go_wp2
          go_roundg k2
          case measure => have := HK1.out; have := HK2.out; omega
          case rel => exact ⟨(Go.bits .xor .u32 (x0_2 / 2) 3558460437), (wrap64 (x18_2 + 1)), (by first | rfl | (simp; done) | (simp [*]; done)), (by first | rfl | (simp; done) | (simp [*]; done)), H', ⟨by have := HK1.out; have := HK2.out; omega⟩, by repeat (first | exact Drawn0.refl _ | apply Drawn0.step)⟩
         ·rw [if_neg c8] at H
          have c8b0 : ((Go.bits .and .u32 x0_2 1) == 1) = false := beq_eq_false_iff_ne.mpr c8
          have c8b1 : ((Go.bits .and .u32 x0_2 1) != 1) = true := bne_iff_ne.mpr c8
          have H' := Aside0.mk H
          clear H
          go_wp2
          go_roundg k2
          case measure => have := HK1.out; have := HK2.out; omega
          case rel => exact ⟨(x0_2 / 2), (wrap64 (x18_2 + 1)), (by first | rfl | (simp; done) | (simp [*]; done)), (by first | rfl | (simp; done) | (simp [*]; done)), H', ⟨by have := HK1.out; have := HK2.out; omega⟩, by repeat (first | exact Drawn0.refl _ | apply Drawn0.step)⟩
        ·rw [if_neg c7] at H
         have c7b0 : decide (x18_2 < 8) = false := decide_eq_false c7
         clear c7
         have H' := Aside0.mk H
         clear H
         go_wp2
         go_roundg k2
         case measure => have := HK1.out; have := HK2.out; omega
         case rel => exact ⟨(x0_2), (wrap64 (x9_1 + 1)), (by first | rfl | (simp; done) | (simp [*]; done)), (by first | rfl | (simp; done) | (simp [*]; done)), H', ⟨by have := HK1.out; have := HK2.out; omega⟩, by repeat (first | exact Drawn0.refl _ | apply Drawn0.step)⟩
     ·rw [if_neg c5] at H
      exact absurd H (by simp)
    ·rw [if_neg c4] at H
     exact absurd H (by simp)
   ·rw [if_neg c3] at H
    have c3b0 : decide (x9_1 < (a1.size : Int)) = false := decide_eq_false c3
    clear c3
    obtain rfl := Option.some.inj H
    go_wp2
    go_ret
    exact ⟨by first | rfl | (simp; done) | (simp [*]; done), by repeat (first | exact Drawn0.refl _ | apply Drawn0.step)⟩
def impl_SumOf.f (k : Nat) (a0 : ByteArray) : Option (Int) := (impl_SumMore.f k 4294967295 a0).bind fun t209 => (some t209)
theorem impl_SumOf.mono : ∀ a0 k, LeO (impl_SumOf.f k a0) (impl_SumOf.f (k + 1) a0) := by
 intro a0 k
 unfold impl_SumOf.f
 repeat' first
   | (with_reducible exact impl_SumMore.mono _ _ _)
   | (with_reducible exact LeO.refl _)
   | (with_reducible exact LeO.none _)
   | (with_reducible refine LeO.ite ?_ ?_)
   | (with_reducible refine LeO.bind ?_ (fun _ => ?_))
   | exact impl_SumMore.mono _ _ _
theorem impl_SumOf.calls (k : Nat) (a0 : ByteArray) (r : Int) (w : World) (h : impl_SumOf.f k a0 = some r) :
  Calls Try.prog 125 #[.string a0] w fun e w' => e = .returned (.int .u32 r) ∧ Drawn0 w w' := by
 have H : ((impl_SumMore.f k 4294967295 a0).bind fun t209 => (some t209)) = some r := h
 clear h
 replace H := Option.bind_eq_some_iff.mp H
 obtain ⟨t209, A20, H⟩ := H
 replace H : (some t209) = some r := H
 have A2 := Aside0.mk A20
 clear A20
 obtain rfl := Option.some.inj H
 go_enter Try.func125, Try.ntmps125
 go_wp2_with (first | ((with_reducible refine gate_callee (f := 153) rfl ?_); refine goesL_ (some 4) rfl rfl Try.func153 (by kernel_rfl) rfl #[.int .u32 4294967295, .string a0] rfl (by (try simp only [List.map_toArray, List.map_cons, List.map_nil]); first | done | rfl | (simp only [List.length_drop, List.length_take]; rfl)) ?_; (with_reducible refine (impl_SumMore.calls k 4294967295 a0 t209 _ A2.out).mono ?_); rintro e w' ⟨rfl, ⟨nd, rfl⟩⟩; refine ⟨_, rfl, ?_⟩))
 go_ret
 exact ⟨by first | rfl | (simp; done) | (simp [*]; done), by repeat (first | exact Drawn0.refl _ | apply Drawn0.step)⟩
def impl_seal.f (k : Nat) (a0 : ByteArray) : Option (ByteArray) := (impl_SumOf.f k a0).bind fun t210 => (some (strOfNums (([(t210 / 16777216) % 256, (t210 / 65536) % 256, (t210 / 256) % 256, (t210) % 256] : List Int))))
theorem impl_seal.mono : ∀ a0 k, LeO (impl_seal.f k a0) (impl_seal.f (k + 1) a0) := by
 intro a0 k
 unfold impl_seal.f
 repeat' first
   | (with_reducible exact impl_SumOf.mono _ _)
   | (with_reducible exact LeO.refl _)
   | (with_reducible exact LeO.none _)
   | (with_reducible refine LeO.ite ?_ ?_)
   | (with_reducible refine LeO.bind ?_ (fun _ => ?_))
   | exact impl_SumOf.mono _ _
theorem impl_seal.calls (k : Nat) (a0 : ByteArray) (r : ByteArray) (w : World) (h : impl_seal.f k a0 = some r) :
  Calls Try.prog 68 #[.string a0] w fun e w' => e = .returned (.string r) ∧ Below w.heap.size w w' := by
 have HB := Aside0.mk (Below.refl w.heap.size w)
 have H : ((impl_SumOf.f k a0).bind fun t210 => (some (strOfNums (([(t210 / 16777216) % 256, (t210 / 65536) % 256, (t210 / 256) % 256, (t210) % 256] : List Int))))) = some r := h
 clear h
 replace H := Option.bind_eq_some_iff.mp H
 obtain ⟨t210, A20, H⟩ := H
 replace H : (some (strOfNums (([(t210 / 16777216) % 256, (t210 / 65536) % 256, (t210 / 256) % 256, (t210) % 256] : List Int)))) = some r := H
 have A2 := Aside0.mk A20
 clear A20
 obtain ⟨y211, hy211⟩ : ∃ y_ : List Int, y_ = (([(t210 / 16777216) % 256, (t210 / 65536) % 256, (t210 / 256) % 256, (t210) % 256] : List Int)) := ⟨_, rfl⟩
 replace H : (some (strOfNums y211)) = some r := by first | (rw [hy211]; with_reducible exact H) | (have H2_ := (Option.bind_some _ _).symm.trans H; rw [hy211]; with_reducible exact H2_) | (have H2_ := (Option.bind_some _ _).symm.trans H; with_reducible exact H2_) | with_reducible exact H | (rw [hy211]; exact H) | exact H
 have Ny211 := Aside0.mk hy211
 clear hy211
 obtain rfl := Option.some.inj H
 go_enter Try.func68, Try.ntmps68
 go_wp2_with (first | ((with_reducible refine gate_callee (f := 125) rfl ?_); refine goesL_ (some 5) rfl rfl Try.func125 (by kernel_rfl) rfl #[.string a0] rfl (by (try simp only [List.map_toArray, List.map_cons, List.map_nil]); first | done | rfl | (simp only [List.length_drop, List.length_take]; rfl)) ?_; (with_reducible refine (impl_SumOf.calls k a0 t210 _ A2.out).mono ?_); rintro e w' ⟨rfl, ⟨nd, rfl⟩⟩; refine ⟨_, rfl, ?_⟩) | ((with_reducible refine gate_dst (N := 17) rfl ?_); refine Kd.R_lit (Kd.int .u8) _ 5 ?hg (N := 17) ?hd (xs := ([(t210 / 16777216) % 256, (t210 / 65536) % 256, (t210 / 256) % 256, (t210) % 256] : List Int)) (inner := [.int .u8 ((t210 / 16777216) % 256), .int .u8 ((t210 / 65536) % 256), .int .u8 ((t210 / 256) % 256), .int .u8 ((t210) % 256)]) (ok := fun _ => True) (okp := fun _ => True) ?hr ?hp (fun _ hk => hk) trivial (Below.refl _ _) (Nat.le_refl _) (by simp) ?_; (case hd => rfl); (case hg => rfl); (case hr => first | (go_simp; done) | (go_simp; rfl)); (case hp => exact (Reps.one (show Kd.M (Kd.int .u8) _ _ _ ((t210 / 16777216) % 256) [.int .u8 ((t210 / 16777216) % 256)] from rfl) (Reps.one (show Kd.M (Kd.int .u8) _ _ _ ((t210 / 65536) % 256) [.int .u8 ((t210 / 65536) % 256)] from rfl) (Reps.one (show Kd.M (Kd.int .u8) _ _ _ ((t210 / 256) % 256) [.int .u8 ((t210 / 256) % 256)] from rfl) (Reps.one (show Kd.M (Kd.int .u8) _ _ _ ((t210) % 256) [.int .u8 ((t210) % 256)] from rfl) (Reps.none _ _)))))); intro v212 w3 ho4 hb hg_ hnew_; clear hg_ hnew_; (first | rw [← Ny211.out] at ho4 | (simp only [Int.reduceToNat] at ho4; rw [← Ny211.out] at ho4)); have n0_ := Aside0.mk (Kd.R_lower ho4 (below_size (by repeat (first | (with_reducible first | exact HB.out | apply below_alloc | apply pw_below_drewN | apply below_drew1) | exact HB.out)))); have n1_ := Aside0.mk (below_step (by repeat (first | (with_reducible first | exact HB.out | apply below_alloc | apply pw_below_drewN | apply below_drew1) | exact HB.out)) hb); clear HB; have HO213 := n0_; have HB := n1_; clear n0_ n1_; clear hb ho4; have hcv5 := own_string (P := Try.prog) Try.underlying55 Try.underlying5 Try.underlying9 (Kd.own_of_R HO213.out)))
 go_ret
 exact ⟨by first | rfl | (simp [errW_none, errW_some] <;> rfl) | (simp [*, errW_none, errW_some] <;> rfl), by repeat (first | (with_reducible first | exact HB.out | apply below_alloc | apply pw_below_drewN | apply below_drew1) | exact HB.out)⟩
def impl_Unsealed.f (k : Nat) (a0 : ByteArray) : Option (ByteArray × Bool) := (impl_in.f (wrap64 ((a0.size : Int) - 4)) 0 20000).bind fun t214 => (if t214 = true then (if 0 ≤ (wrap64 ((a0.size : Int) - 4)) then (if (wrap64 ((a0.size : Int) - 4)) ≤ (a0.size : Int) then ((impl_seal.f k (a0.extract 0 ((wrap64 ((a0.size : Int) - 4)) : Int).toNat)).bind fun t215 => (if (a0.extract ((wrap64 ((a0.size : Int) - 4)) : Int).toNat a0.size).toList = t215.toList then (some (a0.extract 0 ((wrap64 ((a0.size : Int) - 4)) : Int).toNat, true)) else (some ((⟨#[]⟩ : ByteArray), false)))) else (none)) else (none)) else (some ((⟨#[]⟩ : ByteArray), false)))
theorem impl_Unsealed.mono : ∀ a0 k, LeO (impl_Unsealed.f k a0) (impl_Unsealed.f (k + 1) a0) := by
 intro a0 k
 unfold impl_Unsealed.f
 repeat' first
   | (with_reducible exact impl_seal.mono _ _)
   | (with_reducible exact LeO.refl _)
   | (with_reducible exact LeO.none _)
   | (with_reducible refine LeO.ite ?_ ?_)
   | (with_reducible refine LeO.bind ?_ (fun _ => ?_))
   | exact impl_seal.mono _ _
def impl_Unsealed.T2 : Bool × List (List Nat × List Nat) := (true, [([], []), ([0], [0]), ([1], [1]), ([2, 1], [2]), ([3], [3]), ([3], [3]), ([4, 5, 3], [3, 4, 5]), ([3], [3]), ([3], [3]), ([7, 8, 3], [3, 7, 8]), ([9, 3, 3], [3, 9]), ([6, 10, 3], [3, 6, 10]), ([3, 11], [3, 11])])
def impl_Unsealed.B2 : List Nat := [0, 1, 3, 7, 15, 15, 63, 15, 15, 399, 911, 2047, 4095]
theorem impl_Unsealed.tab2 : rtab .any (opsOf Try.f69 2) = impl_Unsealed.T2 := by kernel_rfl
theorem impl_Unsealed.bits2 : waitsOk impl_Unsealed.T2.2 impl_Unsealed.B2 = true := by kernel_rfl
theorem impl_Unsealed.calls (k : Nat) (a0 : ByteArray) (r1 : ByteArray) (r2 : Bool) (w : World) (h : impl_Unsealed.f k a0 = some (r1, r2)) :
  Calls Try.prog 69 #[.string a0] w fun e w' => e = .returned (.tuple #[.string r1, .bool r2]) ∧ Below w.heap.size w w' := by
 have HB := Aside0.mk (Below.refl w.heap.size w)
 have H : ((impl_in.f (wrap64 ((a0.size : Int) - 4)) 0 20000).bind fun t214 => (if t214 = true then (if 0 ≤ (wrap64 ((a0.size : Int) - 4)) then (if (wrap64 ((a0.size : Int) - 4)) ≤ (a0.size : Int) then ((impl_seal.f k (a0.extract 0 ((wrap64 ((a0.size : Int) - 4)) : Int).toNat)).bind fun t215 => (if (a0.extract ((wrap64 ((a0.size : Int) - 4)) : Int).toNat a0.size).toList = t215.toList then (some (a0.extract 0 ((wrap64 ((a0.size : Int) - 4)) : Int).toNat, true)) else (some ((⟨#[]⟩ : ByteArray), false)))) else (none)) else (none)) else (some ((⟨#[]⟩ : ByteArray), false)))) = some (r1, r2) := h
 clear h
 replace H := Option.bind_eq_some_iff.mp H
 obtain ⟨t214, A20, H⟩ := H
 replace H : (if t214 = true then (if 0 ≤ (wrap64 ((a0.size : Int) - 4)) then (if (wrap64 ((a0.size : Int) - 4)) ≤ (a0.size : Int) then ((impl_seal.f k (a0.extract 0 ((wrap64 ((a0.size : Int) - 4)) : Int).toNat)).bind fun t215 => (if (a0.extract ((wrap64 ((a0.size : Int) - 4)) : Int).toNat a0.size).toList = t215.toList then (some (a0.extract 0 ((wrap64 ((a0.size : Int) - 4)) : Int).toNat, true)) else (some ((⟨#[]⟩ : ByteArray), false)))) else (none)) else (none)) else (some ((⟨#[]⟩ : ByteArray), false))) = some (r1, r2) := H
 have A2 := Aside0.mk A20
 clear A20
 by_cases c3 : t214 = true
 ·subst c3
  have H1 : (if 0 ≤ (wrap64 ((a0.size : Int) - 4)) then (if (wrap64 ((a0.size : Int) - 4)) ≤ (a0.size : Int) then ((impl_seal.f k (a0.extract 0 ((wrap64 ((a0.size : Int) - 4)) : Int).toNat)).bind fun t215 => (if (a0.extract ((wrap64 ((a0.size : Int) - 4)) : Int).toNat a0.size).toList = t215.toList then (some (a0.extract 0 ((wrap64 ((a0.size : Int) - 4)) : Int).toNat, true)) else (some ((⟨#[]⟩ : ByteArray), false)))) else (none)) else (none)) = some (r1, r2) := by rw [if_pos rfl] at H; exact H
  clear H
  have H := H1
  clear H1
  obtain ⟨ji4, hji4⟩ : ∃ j_ : Int, (wrap64 ((a0.size : Int) - 4)) = j_ := ⟨_, rfl⟩
  replace H : (if 0 ≤ (ji4) then (if (ji4) ≤ (a0.size : Int) then ((impl_seal.f k (a0.extract 0 ((ji4) : Int).toNat)).bind fun t215 => (if (a0.extract ((ji4) : Int).toNat a0.size).toList = t215.toList then (some (a0.extract 0 ((ji4) : Int).toNat, true)) else (some ((⟨#[]⟩ : ByteArray), false)))) else (none)) else (none)) = some (r1, r2) := by first | (rw [hji4] at H; exact H) | (simp only [hji4] at H ⊢; exact H)
  (try rw [hji4] at A2)
  have hji4w : (IntKind.i64.wrap ((a0.size : Int) - 4)) = ji4 := (i64_w _).trans hji4
  by_cases c5 : 0 ≤ (ji4)
  ·rw [if_pos c5] at H
   have c5b0 := eq_true c5
   have c5b1 : decide (0 ≤ (ji4)) = true := decide_eq_true c5
   clear c5
   by_cases c6 : (ji4) ≤ (a0.size : Int)
   ·rw [if_pos c6] at H
    have c6b0 := eq_true c6
    have c6b1 : decide ((ji4) ≤ (a0.size : Int)) = true := decide_eq_true c6
    clear c6
    have c7b0 := eq_true (of_decide_eq_true (by with_reducible assumption) : 0 ≤ (ji4))
    have c8b0 := eq_true (of_decide_eq_true (by with_reducible assumption) : (ji4) ≤ (a0.size : Int))
    replace H := Option.bind_eq_some_iff.mp H
    obtain ⟨t215, A90, H⟩ := H
    replace H : (if (a0.extract ((ji4) : Int).toNat a0.size).toList = t215.toList then (some (a0.extract 0 ((ji4) : Int).toNat, true)) else (some ((⟨#[]⟩ : ByteArray), false))) = some (r1, r2) := H
    have A9 := Aside0.mk A90
    clear A90
    by_cases c10 : (a0.extract ((ji4) : Int).toNat a0.size).toList = t215.toList
    ·rw [if_pos c10] at H
     have c10b0 : ((a0.extract ((ji4) : Int).toNat a0.size).toList == t215.toList) = true := beq_iff_eq.mpr c10
     have c10b1 : ((a0.extract ((ji4) : Int).toNat a0.size).toList != t215.toList) = false := bne_eq_false_iff_eq.mpr c10
     clear c10
     have c11b0 := eq_true (of_decide_eq_true (by with_reducible assumption) : 0 ≤ (ji4))
     have c12b0 := eq_true (of_decide_eq_true (by with_reducible assumption) : (ji4) ≤ (a0.size : Int))
     simp only [Option.some.injEq, Prod.mk.injEq] at H
     obtain ⟨rfl, rfl⟩ := H
     go_enter Try.func69, Try.ntmps69
     try go_wp2
     have n0_ := Aside0.mk (below_drew1 HB.out)
     clear HB
     have HB := n0_
     clear n0_
     refine start_ (n := 13) (S := fun w' => True) (ds := []) #[false, false, false, false, false, false, false, false, false, false, false, false, false] (by kernel_rfl) rfl rfl trivial (fun hHeld => ?_); refine with_tabW impl_Unsealed.tab2 impl_Unsealed.bits2 (fun HT_ HW_ => ?_)
     generalize w.drew = w13 at HB hHeld ⊢
     refine pure_ (i := 0) (N := some 8) (v := ?_) (a' := ?_) #[true, false, false, false, false, false, false, false, false, false, false, false, false] rfl rfl (any_of HT_.out (by kernel_rfl)) (fun _ _ _ h => h) (Or.inl ⟨by rfl, ?_⟩) ?_ ?_
     rotate_left
     ·intro w'
      go_simp
      with_reducible rfl
     rotate_left
     ·simp only [Act.put, List.setIfInBounds_toArray, List.set_cons_zero, List.set_cons_succ, i64_w, i32_w]
      rfl
     refine one_ (i := 1) (N := some 9) #[true, true, false, false, false, false, false, false, false, false, false, false, false] rfl rfl (one_of HT_.out (by kernel_rfl)) (by decide) (fun K hK => ?_)
     refine goes_ Try.func73 (by kernel_rfl) rfl #[.int .i64 ji4, .int .i64 0, .int .i64 20000] (by rfl) rfl rfl (by (try simp only [List.map_toArray, List.map_cons, List.map_nil]); first | done | (simp only [hji4]; rfl) | rfl | (simp only [List.length_drop, List.length_take]; rfl)) ?_
     with_reducible refine (impl_in.calls ji4 0 20000 true _ A2.out).mono ?_
     rintro e w' ⟨rfl, ⟨nd, rfl⟩⟩
     refine ⟨_, rfl, ?_⟩
     refine hK.out _ _ trivial (fun hHeld => ?_)
     clear hK K
     refine norm_ (a' := ?_) ?_ ?_
     rotate_left
     ·show Act.put _ (some 9) _ = _
      simp only [Act.put, List.setIfInBounds_toArray, List.set_cons_zero, List.set_cons_succ, i64_w, i32_w]
      rfl
     refine pure_ (i := 2) (N := some 10) (v := ?_) (a' := ?_) #[true, true, true, false, false, false, false, false, false, false, false, false, false] rfl rfl (any_of HT_.out (by kernel_rfl)) (fun _ _ _ h => h) (Or.inl ⟨by rfl, ?_⟩) ?_ ?_
     rotate_left
     ·intro w'
      go_simp
      with_reducible rfl
     rotate_left
     ·simp only [Act.put, List.setIfInBounds_toArray, List.set_cons_zero, List.set_cons_succ, i64_w, i32_w]
      rfl
     refine pure_ (i := 3) (N := some 11) (v := ?_) (a' := ?_) #[true, true, true, true, false, false, false, false, false, false, false, false, false] rfl rfl (any_of HT_.out (by kernel_rfl)) (fun _ _ _ h => h) (Or.inl ⟨by rfl, ?_⟩) ?_ ?_
     rotate_left
     ·intro w'
      go_simp
      with_reducible rfl
     rotate_left
     ·simp only [Act.put, List.setIfInBounds_toArray, List.set_cons_zero, List.set_cons_succ, i64_w, i32_w]
      rfl
     refine pure_ (i := 4) (N := some 12) (v := ?_) (a' := ?_) #[true, true, true, true, true, false, false, false, false, false, false, false, false] rfl rfl (any_of HT_.out (by kernel_rfl)) (fun _ _ _ h => h) (Or.inl ⟨by rfl, ?_⟩) ?_ ?_
     rotate_left
     ·intro w'
      go_simp
      with_reducible rfl
     rotate_left
     ·simp only [Act.put, List.setIfInBounds_toArray, List.set_cons_zero, List.set_cons_succ, i64_w, i32_w]
      rfl
     refine pure_ (i := 5) (N := some 13) (v := ?_) (a' := ?_) #[true, true, true, true, true, true, false, false, false, false, false, false, false] rfl rfl (any_of HT_.out (by kernel_rfl)) (fun _ _ _ h => h) (Or.inl ⟨by rfl, ?_⟩) ?_ ?_
     rotate_left
     ·intro w'
      go_simp
      with_reducible rfl
     rotate_left
     ·simp only [Act.put, List.setIfInBounds_toArray, List.set_cons_zero, List.set_cons_succ, i64_w, i32_w]
      rfl
     refine pure_ (i := 6) (N := some 14) (v := ?_) (a' := ?_) #[true, true, true, true, true, true, true, false, false, false, false, false, false] rfl rfl (any_of HT_.out (by kernel_rfl)) (fun _ _ _ h => h) (Or.inl ⟨by rfl, ?_⟩) ?_ ?_
     rotate_left
     ·intro w'
      go_simp
      with_reducible rfl
     rotate_left
     ·simp only [Act.put, List.setIfInBounds_toArray, List.set_cons_zero, List.set_cons_succ, i64_w, i32_w]
      rfl
     refine pure_ (i := 7) (N := some 15) (v := ?_) (a' := ?_) #[true, true, true, true, true, true, true, true, false, false, false, false, false] rfl rfl (any_of HT_.out (by kernel_rfl)) (fun _ _ _ h => h) (Or.inl ⟨by rfl, ?_⟩) ?_ ?_
     rotate_left
     ·intro w'
      go_simp
      with_reducible rfl
     rotate_left
     ·simp only [Act.put, List.setIfInBounds_toArray, List.set_cons_zero, List.set_cons_succ, i64_w, i32_w]
      rfl
     refine pure_ (i := 8) (N := some 16) (v := ?_) (a' := ?_) #[true, true, true, true, true, true, true, true, true, false, false, false, false] rfl rfl (any_of HT_.out (by kernel_rfl)) (fun _ _ _ h => h) (Or.inl ⟨by rfl, ?_⟩) ?_ ?_
     rotate_left
     ·intro w'
      go_simp
      with_reducible rfl
     rotate_left
     ·simp only [Act.put, List.setIfInBounds_toArray, List.set_cons_zero, List.set_cons_succ, i64_w, i32_w]
      rfl
     refine pure_ (i := 9) (N := some 17) (v := ?_) (a' := ?_) #[true, true, true, true, true, true, true, true, true, true, false, false, false] rfl rfl (any_of HT_.out (by kernel_rfl)) (fun _ _ _ h => h) (Or.inl ⟨by rfl, ?_⟩) ?_ ?_
     rotate_left
     ·intro w'
      go_simp
      with_reducible rfl
     rotate_left
     ·simp only [Act.put, List.setIfInBounds_toArray, List.set_cons_zero, List.set_cons_succ, i64_w, i32_w]
      rfl
     refine one_ (i := 10) (N := some 18) #[true, true, true, true, true, true, true, true, true, true, true, false, false] rfl rfl (one_of HT_.out (by kernel_rfl)) (by decide) (fun K hK => ?_)
     refine goes_ Try.func68 (by kernel_rfl) rfl #[.string (a0.extract 0 ((ji4) : Int).toNat)] (by rfl) rfl rfl (by (try simp only [List.map_toArray, List.map_cons, List.map_nil]); first | done | (simp only [hji4]; rfl) | rfl | (simp only [List.length_drop, List.length_take]; rfl)) ?_
     with_reducible refine (impl_seal.calls k (a0.extract 0 ((ji4) : Int).toNat) t215 _ A9.out).mono ?_
     rintro e w14 ⟨rfl, hb⟩
     refine ⟨_, rfl, ?_⟩
     have n0_ := Aside0.mk (below_step (by repeat (first | (with_reducible first | exact HB.out | apply below_alloc | apply pw_below_drewN | apply below_drew1) | exact HB.out)) hb)
     clear HB
     have HB := n0_
     clear n0_
     (try clear hb)
     (try clear hb2)
     (try clear hk)
     (try clear hi)
     refine hK.out _ _ trivial (fun hHeld => ?_)
     clear hK K
     refine norm_ (a' := ?_) ?_ ?_
     rotate_left
     ·show Act.put _ (some 18) _ = _
      simp only [Act.put, List.setIfInBounds_toArray, List.set_cons_zero, List.set_cons_succ, i64_w, i32_w]
      rfl
     refine pure_ (i := 11) (N := some 19) (v := ?_) (a' := ?_) #[true, true, true, true, true, true, true, true, true, true, true, true, false] rfl rfl (any_of HT_.out (by kernel_rfl)) (fun _ _ _ h => h) (Or.inl ⟨by rfl, ?_⟩) ?_ ?_
     rotate_left
     ·intro w'
      go_simp
      with_reducible rfl
     rotate_left
     ·simp only [Act.put, List.setIfInBounds_toArray, List.set_cons_zero, List.set_cons_succ, i64_w, i32_w]
      rfl
     refine pure_ (i := 12) (N := some 20) (v := ?_) (a' := ?_) #[true, true, true, true, true, true, true, true, true, true, true, true, true] rfl rfl (any_of HT_.out (by kernel_rfl)) (fun _ _ _ h => h) (Or.inl ⟨by rfl, ?_⟩) ?_ ?_
     rotate_left
     ·intro w'
      go_simp
      with_reducible rfl
     rotate_left
     ·simp only [Act.put, List.setIfInBounds_toArray, List.set_cons_zero, List.set_cons_succ, i64_w, i32_w]
      rfl
     refine done_ (done_of HT_.out (by kernel_rfl)) ?_
     try go_wp2
     go_ret2
     exact ⟨by first | rfl | (simp [errW_none, errW_some] <;> rfl) | (simp only [← hji4]; first | rfl | (simp [errW_none, errW_some] <;> rfl)) | (simp [*, errW_none, errW_some] <;> rfl), by repeat (first | (with_reducible first | exact HB.out | apply below_alloc | apply pw_below_drewN | apply below_drew1) | exact HB.out)⟩
    ·rw [if_neg c10] at H
     have c10b0 : ((a0.extract ((ji4) : Int).toNat a0.size).toList == t215.toList) = false := beq_eq_false_iff_ne.mpr c10
     have c10b1 : ((a0.extract ((ji4) : Int).toNat a0.size).toList != t215.toList) = true := bne_iff_ne.mpr c10
     simp only [Option.some.injEq, Prod.mk.injEq] at H
     obtain ⟨rfl, rfl⟩ := H
     go_enter Try.func69, Try.ntmps69
     try go_wp2
     have n0_ := Aside0.mk (below_drew1 HB.out)
     clear HB
     have HB := n0_
     clear n0_
     refine start_ (n := 13) (S := fun w' => True) (ds := []) #[false, false, false, false, false, false, false, false, false, false, false, false, false] (by kernel_rfl) rfl rfl trivial (fun hHeld => ?_); refine with_tabW impl_Unsealed.tab2 impl_Unsealed.bits2 (fun HT_ HW_ => ?_)
     generalize w.drew = w15 at HB hHeld ⊢
     refine pure_ (i := 0) (N := some 8) (v := ?_) (a' := ?_) #[true, false, false, false, false, false, false, false, false, false, false, false, false] rfl rfl (any_of HT_.out (by kernel_rfl)) (fun _ _ _ h => h) (Or.inl ⟨by rfl, ?_⟩) ?_ ?_
     rotate_left
     ·intro w'
      go_simp
      with_reducible rfl
     rotate_left
     ·simp only [Act.put, List.setIfInBounds_toArray, List.set_cons_zero, List.set_cons_succ, i64_w, i32_w]
      rfl
     refine one_ (i := 1) (N := some 9) #[true, true, false, false, false, false, false, false, false, false, false, false, false] rfl rfl (one_of HT_.out (by kernel_rfl)) (by decide) (fun K hK => ?_)
     refine goes_ Try.func73 (by kernel_rfl) rfl #[.int .i64 ji4, .int .i64 0, .int .i64 20000] (by rfl) rfl rfl (by (try simp only [List.map_toArray, List.map_cons, List.map_nil]); first | done | (simp only [hji4]; rfl) | rfl | (simp only [List.length_drop, List.length_take]; rfl)) ?_
     with_reducible refine (impl_in.calls ji4 0 20000 true _ A2.out).mono ?_
     rintro e w' ⟨rfl, ⟨nd, rfl⟩⟩
     refine ⟨_, rfl, ?_⟩
     refine hK.out _ _ trivial (fun hHeld => ?_)
     clear hK K
     refine norm_ (a' := ?_) ?_ ?_
     rotate_left
     ·show Act.put _ (some 9) _ = _
      simp only [Act.put, List.setIfInBounds_toArray, List.set_cons_zero, List.set_cons_succ, i64_w, i32_w]
      rfl
     refine pure_ (i := 2) (N := some 10) (v := ?_) (a' := ?_) #[true, true, true, false, false, false, false, false, false, false, false, false, false] rfl rfl (any_of HT_.out (by kernel_rfl)) (fun _ _ _ h => h) (Or.inl ⟨by rfl, ?_⟩) ?_ ?_
     rotate_left
     ·intro w'
      go_simp
      with_reducible rfl
     rotate_left
     ·simp only [Act.put, List.setIfInBounds_toArray, List.set_cons_zero, List.set_cons_succ, i64_w, i32_w]
      rfl
     refine pure_ (i := 3) (N := some 11) (v := ?_) (a' := ?_) #[true, true, true, true, false, false, false, false, false, false, false, false, false] rfl rfl (any_of HT_.out (by kernel_rfl)) (fun _ _ _ h => h) (Or.inl ⟨by rfl, ?_⟩) ?_ ?_
     rotate_left
     ·intro w'
      go_simp
      with_reducible rfl
     rotate_left
     ·simp only [Act.put, List.setIfInBounds_toArray, List.set_cons_zero, List.set_cons_succ, i64_w, i32_w]
      rfl
     refine pure_ (i := 4) (N := some 12) (v := ?_) (a' := ?_) #[true, true, true, true, true, false, false, false, false, false, false, false, false] rfl rfl (any_of HT_.out (by kernel_rfl)) (fun _ _ _ h => h) (Or.inl ⟨by rfl, ?_⟩) ?_ ?_
     rotate_left
     ·intro w'
      go_simp
      with_reducible rfl
     rotate_left
     ·simp only [Act.put, List.setIfInBounds_toArray, List.set_cons_zero, List.set_cons_succ, i64_w, i32_w]
      rfl
     refine pure_ (i := 5) (N := some 13) (v := ?_) (a' := ?_) #[true, true, true, true, true, true, false, false, false, false, false, false, false] rfl rfl (any_of HT_.out (by kernel_rfl)) (fun _ _ _ h => h) (Or.inl ⟨by rfl, ?_⟩) ?_ ?_
     rotate_left
     ·intro w'
      go_simp
      with_reducible rfl
     rotate_left
     ·simp only [Act.put, List.setIfInBounds_toArray, List.set_cons_zero, List.set_cons_succ, i64_w, i32_w]
      rfl
     refine pure_ (i := 6) (N := some 14) (v := ?_) (a' := ?_) #[true, true, true, true, true, true, true, false, false, false, false, false, false] rfl rfl (any_of HT_.out (by kernel_rfl)) (fun _ _ _ h => h) (Or.inl ⟨by rfl, ?_⟩) ?_ ?_
     rotate_left
     ·intro w'
      go_simp
      with_reducible rfl
     rotate_left
     ·simp only [Act.put, List.setIfInBounds_toArray, List.set_cons_zero, List.set_cons_succ, i64_w, i32_w]
      rfl
     refine pure_ (i := 7) (N := some 15) (v := ?_) (a' := ?_) #[true, true, true, true, true, true, true, true, false, false, false, false, false] rfl rfl (any_of HT_.out (by kernel_rfl)) (fun _ _ _ h => h) (Or.inl ⟨by rfl, ?_⟩) ?_ ?_
     rotate_left
     ·intro w'
      go_simp
      with_reducible rfl
     rotate_left
     ·simp only [Act.put, List.setIfInBounds_toArray, List.set_cons_zero, List.set_cons_succ, i64_w, i32_w]
      rfl
     refine pure_ (i := 8) (N := some 16) (v := ?_) (a' := ?_) #[true, true, true, true, true, true, true, true, true, false, false, false, false] rfl rfl (any_of HT_.out (by kernel_rfl)) (fun _ _ _ h => h) (Or.inl ⟨by rfl, ?_⟩) ?_ ?_
     rotate_left
     ·intro w'
      go_simp
      with_reducible rfl
     rotate_left
     ·simp only [Act.put, List.setIfInBounds_toArray, List.set_cons_zero, List.set_cons_succ, i64_w, i32_w]
      rfl
     refine pure_ (i := 9) (N := some 17) (v := ?_) (a' := ?_) #[true, true, true, true, true, true, true, true, true, true, false, false, false] rfl rfl (any_of HT_.out (by kernel_rfl)) (fun _ _ _ h => h) (Or.inl ⟨by rfl, ?_⟩) ?_ ?_
     rotate_left
     ·intro w'
      go_simp
      with_reducible rfl
     rotate_left
     ·simp only [Act.put, List.setIfInBounds_toArray, List.set_cons_zero, List.set_cons_succ, i64_w, i32_w]
      rfl
     refine one_ (i := 10) (N := some 18) #[true, true, true, true, true, true, true, true, true, true, true, false, false] rfl rfl (one_of HT_.out (by kernel_rfl)) (by decide) (fun K hK => ?_)
     refine goes_ Try.func68 (by kernel_rfl) rfl #[.string (a0.extract 0 ((ji4) : Int).toNat)] (by rfl) rfl rfl (by (try simp only [List.map_toArray, List.map_cons, List.map_nil]); first | done | (simp only [hji4]; rfl) | rfl | (simp only [List.length_drop, List.length_take]; rfl)) ?_
     with_reducible refine (impl_seal.calls k (a0.extract 0 ((ji4) : Int).toNat) t215 _ A9.out).mono ?_
     rintro e w16 ⟨rfl, hb⟩
     refine ⟨_, rfl, ?_⟩
     have n0_ := Aside0.mk (below_step (by repeat (first | (with_reducible first | exact HB.out | apply below_alloc | apply pw_below_drewN | apply below_drew1) | exact HB.out)) hb)
     clear HB
     have HB := n0_
     clear n0_
     (try clear hb)
     (try clear hb2)
     (try clear hk)
     (try clear hi)
     refine hK.out _ _ trivial (fun hHeld => ?_)
     clear hK K
     refine norm_ (a' := ?_) ?_ ?_
     rotate_left
     ·show Act.put _ (some 18) _ = _
      simp only [Act.put, List.setIfInBounds_toArray, List.set_cons_zero, List.set_cons_succ, i64_w, i32_w]
      rfl
     refine pure_ (i := 11) (N := some 19) (v := ?_) (a' := ?_) #[true, true, true, true, true, true, true, true, true, true, true, true, false] rfl rfl (any_of HT_.out (by kernel_rfl)) (fun _ _ _ h => h) (Or.inl ⟨by rfl, ?_⟩) ?_ ?_
     rotate_left
     ·intro w'
      go_simp
      with_reducible rfl
     rotate_left
     ·simp only [Act.put, List.setIfInBounds_toArray, List.set_cons_zero, List.set_cons_succ, i64_w, i32_w]
      rfl
     refine pure_ (i := 12) (N := some 20) (v := ?_) (a' := ?_) #[true, true, true, true, true, true, true, true, true, true, true, true, true] rfl rfl (any_of HT_.out (by kernel_rfl)) (fun _ _ _ h => h) (Or.inl ⟨by rfl, ?_⟩) ?_ ?_
     rotate_left
     ·intro w'
      go_simp
      with_reducible rfl
     rotate_left
     ·simp only [Act.put, List.setIfInBounds_toArray, List.set_cons_zero, List.set_cons_succ, i64_w, i32_w]
      rfl
     refine done_ (done_of HT_.out (by kernel_rfl)) ?_
     try go_wp2
     go_ret2
     exact ⟨by first | rfl | (simp [errW_none, errW_some] <;> rfl) | (simp only [← hji4]; first | rfl | (simp [errW_none, errW_some] <;> rfl)) | (simp [*, errW_none, errW_some] <;> rfl), by repeat (first | (with_reducible first | exact HB.out | apply below_alloc | apply pw_below_drewN | apply below_drew1) | exact HB.out)⟩
   ·rw [if_neg c6] at H
    exact absurd H (by simp)
  ·rw [if_neg c5] at H
   exact absurd H (by simp)
 ·replace c3 := Bool.eq_false_iff.mpr c3
  subst c3
  have H1 : (some ((⟨#[]⟩ : ByteArray), false)) = some (r1, r2) := by rw [if_neg (show ¬ (false = true) by decide)] at H; exact H
  clear H
  have H := H1
  clear H1
  simp only [Option.some.injEq, Prod.mk.injEq] at H
  obtain ⟨rfl, rfl⟩ := H
  go_enter Try.func69, Try.ntmps69
  try go_wp2
  have n0_ := Aside0.mk (below_drew1 HB.out)
  clear HB
  have HB := n0_
  clear n0_
  refine start_ (n := 13) (S := fun w' => True) (ds := []) #[false, false, false, false, false, false, false, false, false, false, false, false, false] (by kernel_rfl) rfl rfl trivial (fun hHeld => ?_); refine with_tabW impl_Unsealed.tab2 impl_Unsealed.bits2 (fun HT_ HW_ => ?_)
  generalize w.drew = w17 at HB hHeld ⊢
  refine pure_ (i := 0) (N := some 8) (v := ?_) (a' := ?_) #[true, false, false, false, false, false, false, false, false, false, false, false, false] rfl rfl (any_of HT_.out (by kernel_rfl)) (fun _ _ _ h => h) (Or.inl ⟨by rfl, ?_⟩) ?_ ?_
  rotate_left
  ·intro w'
   go_simp
   with_reducible rfl
  rotate_left
  ·simp only [Act.put, List.setIfInBounds_toArray, List.set_cons_zero, List.set_cons_succ, i64_w, i32_w]
   rfl
  refine one_ (i := 1) (N := some 9) #[true, true, false, false, false, false, false, false, false, false, false, false, false] rfl rfl (one_of HT_.out (by kernel_rfl)) (by decide) (fun K hK => ?_)
  refine goes_ Try.func73 (by kernel_rfl) rfl #[.int .i64 (wrap64 ((a0.size : Int) - 4)), .int .i64 0, .int .i64 20000] (by rfl) rfl rfl (by (try simp only [List.map_toArray, List.map_cons, List.map_nil]); first | done | rfl | (simp only [List.length_drop, List.length_take]; rfl)) ?_
  with_reducible refine (impl_in.calls (wrap64 ((a0.size : Int) - 4)) 0 20000 false _ A2.out).mono ?_
  rintro e w' ⟨rfl, ⟨nd, rfl⟩⟩
  refine ⟨_, rfl, ?_⟩
  refine hK.out _ _ trivial (fun hHeld => ?_)
  clear hK K
  refine norm_ (a' := ?_) ?_ ?_
  rotate_left
  ·show Act.put _ (some 9) _ = _
   simp only [Act.put, List.setIfInBounds_toArray, List.set_cons_zero, List.set_cons_succ, i64_w, i32_w]
   rfl
  refine pure_ (i := 2) (N := some 10) (v := ?_) (a' := ?_) #[true, true, true, false, false, false, false, false, false, false, false, false, false] rfl rfl (any_of HT_.out (by kernel_rfl)) (fun _ _ _ h => h) (Or.inl ⟨by rfl, ?_⟩) ?_ ?_
  rotate_left
  ·intro w'
   go_simp
   with_reducible rfl
  rotate_left
  ·simp only [Act.put, List.setIfInBounds_toArray, List.set_cons_zero, List.set_cons_succ, i64_w, i32_w]
   rfl
  refine pure_ (i := 3) (N := some 11) (v := ?_) (a' := ?_) #[true, true, true, true, false, false, false, false, false, false, false, false, false] rfl rfl (any_of HT_.out (by kernel_rfl)) (fun _ _ _ h => h) (Or.inl ⟨by rfl, ?_⟩) ?_ ?_
  rotate_left
  ·intro w'
   go_simp
   with_reducible rfl
  rotate_left
  ·simp only [Act.put, List.setIfInBounds_toArray, List.set_cons_zero, List.set_cons_succ, i64_w, i32_w]
   rfl
  refine pure_ (i := 4) (N := some 12) (v := undef) (a' := ?_) #[true, true, true, true, true, false, false, false, false, false, false, false, false] rfl rfl (any_of HT_.out (by kernel_rfl)) (fun _ _ _ h => h) (Or.inr ⟨by rfl, rfl⟩) ?_ ?_
  rotate_left
  ·simp only [Act.put, List.setIfInBounds_toArray, List.set_cons_zero, List.set_cons_succ, i64_w, i32_w]
   rfl
  refine pure_ (i := 5) (N := some 13) (v := undef) (a' := ?_) #[true, true, true, true, true, true, false, false, false, false, false, false, false] rfl rfl (any_of HT_.out (by kernel_rfl)) (fun _ _ _ h => h) (Or.inr ⟨by rfl, rfl⟩) ?_ ?_
  rotate_left
  ·simp only [Act.put, List.setIfInBounds_toArray, List.set_cons_zero, List.set_cons_succ, i64_w, i32_w]
   rfl
  refine pure_ (i := 6) (N := some 14) (v := undef) (a' := ?_) #[true, true, true, true, true, true, true, false, false, false, false, false, false] rfl rfl (any_of HT_.out (by kernel_rfl)) (fun _ _ _ h => h) (Or.inr ⟨by rfl, rfl⟩) ?_ ?_
  rotate_left
  ·simp only [Act.put, List.setIfInBounds_toArray, List.set_cons_zero, List.set_cons_succ, i64_w, i32_w]
   rfl
  refine pure_ (i := 7) (N := some 15) (v := undef) (a' := ?_) #[true, true, true, true, true, true, true, true, false, false, false, false, false] rfl rfl (any_of HT_.out (by kernel_rfl)) (fun _ _ _ h => h) (Or.inr ⟨by rfl, rfl⟩) ?_ ?_
  rotate_left
  ·simp only [Act.put, List.setIfInBounds_toArray, List.set_cons_zero, List.set_cons_succ, i64_w, i32_w]
   rfl
  refine pure_ (i := 8) (N := some 16) (v := undef) (a' := ?_) #[true, true, true, true, true, true, true, true, true, false, false, false, false] rfl rfl (any_of HT_.out (by kernel_rfl)) (fun _ _ _ h => h) (Or.inr ⟨by rfl, rfl⟩) ?_ ?_
  rotate_left
  ·simp only [Act.put, List.setIfInBounds_toArray, List.set_cons_zero, List.set_cons_succ, i64_w, i32_w]
   rfl
  refine pure_ (i := 9) (N := some 17) (v := undef) (a' := ?_) #[true, true, true, true, true, true, true, true, true, true, false, false, false] rfl rfl (any_of HT_.out (by kernel_rfl)) (fun _ _ _ h => h) (Or.inr ⟨by rfl, rfl⟩) ?_ ?_
  rotate_left
  ·simp only [Act.put, List.setIfInBounds_toArray, List.set_cons_zero, List.set_cons_succ, i64_w, i32_w]
   rfl
  refine pure_ (i := 10) (N := some 18) (v := undef) (a' := ?_) #[true, true, true, true, true, true, true, true, true, true, true, false, false] rfl rfl (any_of HT_.out (by kernel_rfl)) (fun _ _ _ h => h) (Or.inr ⟨by rfl, rfl⟩) ?_ ?_
  rotate_left
  ·simp only [Act.put, List.setIfInBounds_toArray, List.set_cons_zero, List.set_cons_succ, i64_w, i32_w]
   rfl
  refine pure_ (i := 11) (N := some 19) (v := undef) (a' := ?_) #[true, true, true, true, true, true, true, true, true, true, true, true, false] rfl rfl (any_of HT_.out (by kernel_rfl)) (fun _ _ _ h => h) (Or.inr ⟨by rfl, rfl⟩) ?_ ?_
  rotate_left
  ·simp only [Act.put, List.setIfInBounds_toArray, List.set_cons_zero, List.set_cons_succ, i64_w, i32_w]
   rfl
  refine pure_ (i := 12) (N := some 20) (v := ?_) (a' := ?_) #[true, true, true, true, true, true, true, true, true, true, true, true, true] rfl rfl (any_of HT_.out (by kernel_rfl)) (fun _ _ _ h => h) (Or.inl ⟨by rfl, ?_⟩) ?_ ?_
  rotate_left
  ·intro w'
   go_simp
   with_reducible rfl
  rotate_left
  ·simp only [Act.put, List.setIfInBounds_toArray, List.set_cons_zero, List.set_cons_succ, i64_w, i32_w]
   rfl
  refine done_ (done_of HT_.out (by kernel_rfl)) ?_
  try go_wp2
  go_ret2
  exact ⟨by first | rfl | (simp [errW_none, errW_some] <;> rfl) | (simp [*, errW_none, errW_some] <;> rfl), by repeat (first | (with_reducible first | exact HB.out | apply below_alloc | apply pw_below_drewN | apply below_drew1) | exact HB.out)⟩
end Go.Proofs.Ytapholbdjccapaa.PFnExactTreeOk
