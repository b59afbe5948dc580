import Derived.Test.YtonhdiemjgdcnaaRE8
import Derived.ProofKit
import Derived.OpenShut
import Derived.Deep.Slices
import Derived.ShutString
import Derived.ChangeOld
set_option maxHeartbeats 64000000
set_option maxRecDepth 100000
set_option linter.unusedVariables false
set_option linter.unusedSimpArgs false
namespace Go.Proofs.Ytonhdiemjgdcnaa.PFnExactGivePage
open Go.RowKit Go.Proofs.YtonhdiemjgdcnaaW.PrintWords Go.Proofs.YtonhdiemjgdcnaaW.PrintLast Go.Proofs.YtonhdiemjgdcnaaW.PrintMore
attribute [local go_sem] max2_int min2_int max_two min_two max_three min_three max_four min_four
def implMetaText.T3 : Bool × List (List Nat × List Nat) := (true, [([], []), ([0], [0]), ([1], [1]), ([], []), ([3], [3]), ([4, 2], [4]), ([2, 5], [2, 5]), ([], []), ([7], [7]), ([8, 5], [8]), ([6, 9], [6, 9]), ([], []), ([11], [11]), ([12], [12]), ([13, 9], [13]), ([10, 14], [10, 14]), ([15, 14, 0, 1, 2, 3, 4, 5, 6, 7, 8, 9, 10, 11, 12, 13, 14, 15], [15])])
def implMetaText.B3 : List Nat := [0, 1, 3, 0, 8, 31, 63, 0, 128, 447, 1023, 0, 2048, 6144, 15295, 32767, 65535]
theorem implMetaText.ok3_2 : regB (opsOf Try.f99 3) implMetaText.T3 implMetaText.B3 [] [.p 0, .t 1, .p 3, .t 4, .p 7, .t 8, .p 11, .t 12, .p 13, .e 2, .e 5, .p 6, .e 9, .p 10, .e 14, .p 15, .p 16] = true := by kernel_rfl
def implMetaText.T7 : Bool × List (List Nat × List Nat) := (true, [([], []), ([], []), ([1], [1]), ([2], [2]), ([], []), ([4], [4]), ([5], [5]), ([6, 3], [6]), ([3, 7], [3, 7]), ([0, 8], [0, 8]), ([9, 7, 0, 1, 2, 3, 4, 5, 6, 7, 8, 9], [0, 9])])
def implMetaText.B7 : List Nat := [0, 0, 2, 6, 0, 16, 48, 126, 254, 511, 1023]
theorem implMetaText.ok7_3 : regB (opsOf Try.f99 7) implMetaText.T7 implMetaText.B7 [] [.p 0, .p 1, .t 2, .p 4, .t 5, .p 6, .e 3, .e 7, .p 8, .p 9, .p 10] = true := by kernel_rfl
theorem implMetaText_c {k : Nat} {vt : Int → ByteArray} {sl : ByteArray → ByteArray} (T : TxF k vt sl) (x : S53) (t : ByteArray) (ok : Bool) {cs : List Value} (w : World) (h : k53.K w x cs) (hm : MTxt vt sl x t ok) :
  Calls Try.prog 99 #[.agg cs.toArray] w fun e w' => e = .returned (.tuple #[.string t, .bool ok]) ∧ Below w.heap.size w w' := by
 have hK := h
 obtain ⟨AF, cF, rfl, mF, rF⟩ := k53_open h
 have KR := Aside0.mk rF
 have KM := Aside0.mk hK
 have HM := Aside0.mk hm
 have HV := Aside0.mk T
 have bn := rF.2.1
 have BA := Aside0.mk (BoxAt.mk (cs := [.int .i64 x.f0, .int .i64 x.f1, .int .i64 x.f2, .slice AF x.f3.length cF]) (blk_new w (.cells #[.int .i64 x.f0, .int .i64 x.f1, .int .i64 x.f2, .slice AF x.f3.length cF] 53)) (below_alloc (Below.refl w.heap.size w) (.cells #[.int .i64 x.f0, .int .i64 x.f1, .int .i64 x.f2, .slice AF x.f3.length cF] 53)))
 clear h mF rF hm hK T
 by_cases hh : MOk x
 ·have HO := Aside0.mk hh
  have n0 := hh.f0
  have n1 := hh.f1
  have n2 := hh.f2
  have n3 := hh.len
  clear hh
  go_enter Try.func99, Try.ntmps99
  go_upto_region 3 with (first | ((with_reducible refine gate_dst (N := 9) rfl ?_); refine ev_loadpart rfl 53 _ rfl w.heap.size 0 [] [.int .i64 x.f0, .int .i64 x.f1, .int .i64 x.f2, .slice AF x.f3.length cF] [] _ rfl BA.out.box rfl rfl Try.underlying53 rfl (by kernel_rfl) ?_) | ((with_reducible refine (implMetaOk_c x true _ (k53.K_below BA.out.bel KM.out) ⟨fun _ => HO.out, fun _ => rfl⟩).mono ?_); rintro e w1 ⟨rfl, hb⟩; have BA1 := Aside0.mk (BA.out.step hb); clear hb))
  have hp0 : w1.cell? ⟨w.heap.size, 0, none⟩ = some (.int .i64 x.f0) := (blk_cell BA1.out.box 0).trans rfl
  have hp1 : w1.cell? ⟨w.heap.size, 1, none⟩ = some (.int .i64 x.f1) := (blk_cell BA1.out.box 1).trans rfl
  have hp2 : w1.cell? ⟨w.heap.size, 2, none⟩ = some (.int .i64 x.f2) := (blk_cell BA1.out.box 2).trans rfl
  have hp3 : w1.cell? ⟨w.heap.size, 3, none⟩ = some (.slice AF x.f3.length cF) := (blk_cell BA1.out.box 3).trans rfl
  have s0 := HV.out.vz x.f0
  have s1 := HV.out.vz x.f1
  have s2 := HV.out.vz x.f2
  have s3 := HV.out.vz (x.f3.length : Int)
  have za : (9223372036854775807 < (vt x.f0).size + (vt x.f1).size) = False := eq_false (by omega)
  have zb : (9223372036854775807 < (vt x.f0).size + (vt x.f1).size + (vt x.f2).size) = False := eq_false (by omega)
  have zc : (9223372036854775807 < (vt x.f0).size + (vt x.f1).size + (vt x.f2).size + (vt (x.f3.length : Int)).size) = False := eq_false (by omega)
  have HK := Aside0.mk (Below.refl w1.heap.size w1).drew
  refine seq_start implMetaText.ok3_2 (S := fun w' => w'.cell? ⟨w.heap.size, 0, none⟩ = some (.int .i64 x.f0) ∧ w'.cell? ⟨w.heap.size, 1, none⟩ = some (.int .i64 x.f1) ∧ w'.cell? ⟨w.heap.size, 2, none⟩ = some (.int .i64 x.f2) ∧ w'.cell? ⟨w.heap.size, 3, none⟩ = some (.slice AF x.f3.length cF)) (by kernel_rfl) (fun _ _ _ _ h => h) ⟨cell_step hp0 HK.out, cell_step hp1 HK.out, cell_step hp2 HK.out, cell_step hp3 HK.out⟩ (fun hHeld => ?_)
  (refine seq_p (v := ?_) (a' := ?_) rfl rfl (Or.inl ⟨by rfl, ?_⟩) ?_ ?_; rotate_left; (· intro w'; go_simp; with_reducible rfl); rotate_left; (· show Act.put _ (some _) _ = _; simp only [Act.put, List.setIfInBounds_toArray, List.set_cons_zero, List.set_cons_succ, i64_w, i32_w]; try rfl))
  (refine seq_t (v := ?_) (a' := ?_) rfl rfl (Or.inl ⟨by rfl, ?_⟩) ?_ ?_; rotate_left; (· rintro w' ⟨s0, s1, s2, s3⟩; go_simp; with_reducible rfl); rotate_left; (· show Act.put _ (some _) _ = _; simp only [Act.put, List.setIfInBounds_toArray, List.set_cons_zero, List.set_cons_succ, i64_w, i32_w]; try rfl))
  (refine seq_p (v := ?_) (a' := ?_) rfl rfl (Or.inl ⟨by rfl, ?_⟩) ?_ ?_; rotate_left; (· intro w'; go_simp; with_reducible rfl); rotate_left; (· show Act.put _ (some _) _ = _; simp only [Act.put, List.setIfInBounds_toArray, List.set_cons_zero, List.set_cons_succ, i64_w, i32_w]; try rfl))
  (refine seq_t (v := ?_) (a' := ?_) rfl rfl (Or.inl ⟨by rfl, ?_⟩) ?_ ?_; rotate_left; (· rintro w' ⟨s0, s1, s2, s3⟩; go_simp; with_reducible rfl); rotate_left; (· show Act.put _ (some _) _ = _; simp only [Act.put, List.setIfInBounds_toArray, List.set_cons_zero, List.set_cons_succ, i64_w, i32_w]; try rfl))
  (refine seq_p (v := ?_) (a' := ?_) rfl rfl (Or.inl ⟨by rfl, ?_⟩) ?_ ?_; rotate_left; (· intro w'; go_simp; with_reducible rfl); rotate_left; (· show Act.put _ (some _) _ = _; simp only [Act.put, List.setIfInBounds_toArray, List.set_cons_zero, List.set_cons_succ, i64_w, i32_w]; try rfl))
  (refine seq_t (v := ?_) (a' := ?_) rfl rfl (Or.inl ⟨by rfl, ?_⟩) ?_ ?_; rotate_left; (· rintro w' ⟨s0, s1, s2, s3⟩; go_simp; with_reducible rfl); rotate_left; (· show Act.put _ (some _) _ = _; simp only [Act.put, List.setIfInBounds_toArray, List.set_cons_zero, List.set_cons_succ, i64_w, i32_w]; try rfl))
  (refine seq_p (v := ?_) (a' := ?_) rfl rfl (Or.inl ⟨by rfl, ?_⟩) ?_ ?_; rotate_left; (· intro w'; go_simp; with_reducible rfl); rotate_left; (· show Act.put _ (some _) _ = _; simp only [Act.put, List.setIfInBounds_toArray, List.set_cons_zero, List.set_cons_succ, i64_w, i32_w]; try rfl))
  (refine seq_t (v := ?_) (a' := ?_) rfl rfl (Or.inl ⟨by rfl, ?_⟩) ?_ ?_; rotate_left; (· rintro w' ⟨s0, s1, s2, s3⟩; go_simp; with_reducible rfl); rotate_left; (· show Act.put _ (some _) _ = _; simp only [Act.put, List.setIfInBounds_toArray, List.set_cons_zero, List.set_cons_succ, i64_w, i32_w]; try rfl))
  (refine seq_p (v := ?_) (a' := ?_) rfl rfl (Or.inl ⟨by rfl, ?_⟩) ?_ ?_; rotate_left; (· intro w'; go_simp; with_reducible rfl); rotate_left; (· show Act.put _ (some _) _ = _; simp only [Act.put, List.setIfInBounds_toArray, List.set_cons_zero, List.set_cons_succ, i64_w, i32_w]; try rfl))
  refine seq_call rfl rfl Try.func110 (by kernel_rfl) rfl #[.int .i64 x.f0] (by rfl) rfl (by (try simp only [List.map_toArray, List.map_cons, List.map_nil]); first | done | rfl) ?_
  with_reducible refine (varI HV.out x.f0 n0.1 n0.2 _).mono ?_
  rintro e w2 ⟨rfl, hb⟩
  replace HK := Aside0.mk (below_step HK.out hb)
  clear hb
  refine ⟨_, rfl, ⟨cell_step hp0 HK.out, cell_step hp1 HK.out, cell_step hp2 HK.out, cell_step hp3 HK.out⟩, (fun hHeld => ?_)⟩
  refine seq_norm (a' := ?_) ?_ ?_; rotate_left; (· show Act.put _ (some 14) _ = _; simp only [Act.put, List.setIfInBounds_toArray, List.set_cons_zero, List.set_cons_succ, i64_w, i32_w]; try rfl)
  refine seq_call rfl rfl Try.func110 (by kernel_rfl) rfl #[.int .i64 x.f1] (by rfl) rfl (by (try simp only [List.map_toArray, List.map_cons, List.map_nil]); first | done | rfl) ?_
  with_reducible refine (varI HV.out x.f1 n1.1 n1.2 _).mono ?_
  rintro e w2 ⟨rfl, hb⟩
  replace HK := Aside0.mk (below_step HK.out hb)
  clear hb
  refine ⟨_, rfl, ⟨cell_step hp0 HK.out, cell_step hp1 HK.out, cell_step hp2 HK.out, cell_step hp3 HK.out⟩, (fun hHeld => ?_)⟩
  refine seq_norm (a' := ?_) ?_ ?_; rotate_left; (· show Act.put _ (some 17) _ = _; simp only [Act.put, List.setIfInBounds_toArray, List.set_cons_zero, List.set_cons_succ, i64_w, i32_w]; try rfl)
  (refine seq_p (v := ?_) (a' := ?_) rfl rfl (Or.inl ⟨by rfl, ?_⟩) ?_ ?_; rotate_left; (· intro w'; go_simp; with_reducible rfl); rotate_left; (· show Act.put _ (some _) _ = _; simp only [Act.put, List.setIfInBounds_toArray, List.set_cons_zero, List.set_cons_succ, i64_w, i32_w]; try rfl))
  refine seq_call rfl rfl Try.func110 (by kernel_rfl) rfl #[.int .i64 x.f2] (by rfl) rfl (by (try simp only [List.map_toArray, List.map_cons, List.map_nil]); first | done | rfl) ?_
  with_reducible refine (varI HV.out x.f2 n2.1 n2.2 _).mono ?_
  rintro e w2 ⟨rfl, hb⟩
  replace HK := Aside0.mk (below_step HK.out hb)
  clear hb
  refine ⟨_, rfl, ⟨cell_step hp0 HK.out, cell_step hp1 HK.out, cell_step hp2 HK.out, cell_step hp3 HK.out⟩, (fun hHeld => ?_)⟩
  refine seq_norm (a' := ?_) ?_ ?_; rotate_left; (· show Act.put _ (some 21) _ = _; simp only [Act.put, List.setIfInBounds_toArray, List.set_cons_zero, List.set_cons_succ, i64_w, i32_w]; try rfl)
  (refine seq_p (v := ?_) (a' := ?_) rfl rfl (Or.inl ⟨by rfl, ?_⟩) ?_ ?_; rotate_left; (· intro w'; go_simp; with_reducible rfl); rotate_left; (· show Act.put _ (some _) _ = _; simp only [Act.put, List.setIfInBounds_toArray, List.set_cons_zero, List.set_cons_succ, i64_w, i32_w]; try rfl))
  refine seq_call rfl rfl Try.func110 (by kernel_rfl) rfl #[.int .i64 (x.f3.length : Int)] (by rfl) rfl (by (try simp only [List.map_toArray, List.map_cons, List.map_nil]); first | done | rfl) ?_
  with_reducible refine (varI HV.out (x.f3.length : Int) (by omega) (by omega) _).mono ?_
  rintro e w2 ⟨rfl, hb⟩
  replace HK := Aside0.mk (below_step HK.out hb)
  clear hb
  refine ⟨_, rfl, ⟨cell_step hp0 HK.out, cell_step hp1 HK.out, cell_step hp2 HK.out, cell_step hp3 HK.out⟩, (fun hHeld => ?_)⟩
  refine seq_norm (a' := ?_) ?_ ?_; rotate_left; (· show Act.put _ (some 26) _ = _; simp only [Act.put, List.setIfInBounds_toArray, List.set_cons_zero, List.set_cons_succ, i64_w, i32_w]; try rfl)
  iterate 2 (refine seq_p (v := ?_) (a' := ?_) rfl rfl (Or.inl ⟨by rfl, ?_⟩) ?_ ?_; rotate_left; (· intro w'; go_simp; with_reducible rfl); rotate_left; (· show Act.put _ (some _) _ = _; simp only [Act.put, List.setIfInBounds_toArray, List.set_cons_zero, List.set_cons_succ, i64_w, i32_w]; try rfl))
  refine seq_done ?_
  clear hHeld hp0 hp1 hp2 hp3 za zb zc s0 s1 s2 s3
  replace BA1 := Aside0.mk (BA1.out.step HK.out)
  clear HK
  have hp3 : w2.cell? ⟨w.heap.size, 3, none⟩ = some (.slice AF x.f3.length cF) := (blk_cell BA1.out.box 3).trans rfl
  go_wp2_with fail
  clear hp3
  go_loopg [4, 31] (x.f3.length + 1) (fun kq v4 v5 w' => ∃ (i : Nat), v4 = .string (facc vt (mhead vt x) (x.f3.take i)) ∧ v5 = .int .i64 (i : Int) ∧ Aside0 (kq + i = x.f3.length + 1) ∧ Aside0 (i ≤ x.f3.length) ∧ Aside0 (BoxAt w w' [.int .i64 x.f0, .int .i64 x.f1, .int .i64 x.f2, .slice AF x.f3.length cF]))
  case atStart => exact ⟨0, rfl, rfl, ⟨by omega⟩, ⟨Nat.zero_le _⟩, BA1⟩
  case round =>
   clear BA BA1
   obtain ⟨i, rfl, rfl, HQ, HI, BA⟩ := hrel
   obtain ⟨s, hs⟩ : ∃ s, s = facc vt (mhead vt x) (x.f3.take i) := ⟨_, rfl⟩
   have hsz : s.size ≤ 7000 := by
    have h1 := facc_size HV.out.vz (mhead vt x) (x.f3.take i) (fun f hf => HO.out.le40 f (List.mem_of_mem_take hf))
    have h2 := mhead_size HV.out.vz x
    have h3 := List.length_take_le i x.f3
    have h4 := HI.out
    rw [hs]
    omega
   rw [← hs]
   have HSE := Aside0.mk hs
   clear hs
   by_cases hlt : i < x.f3.length
   ·have c1 : decide ((i : Int) < (x.f3.length : Int)) = true := decide_eq_true (by omega)
    have c0 : decide ((0 : Int) ≤ (i : Int)) = true := decide_eq_true (by omega)
    have c2 : ((i : Int) < (x.f3.length : Int)) = True := eq_true (by omega)
    have c3 : ((0 : Int) ≤ (i : Int)) = True := eq_true (by omega)
    cases gk with
    | zero => exact absurd HQ.out (by omega)
    | succ k1 =>
     obtain ⟨ad, A1, c1_, hA, z0, z1, hl4, hC4⟩ := at_T122 KR.out (i : Int) (by omega) (by omega)
     subst hA
     obtain ⟨el, hel⟩ : ∃ el, el = rd_T122 x.f3 (i : Int) := ⟨_, rfl⟩
     have hel2 : x.f3[i]? = some el := by rw [hel]; simp [rd_T122, List.getD_eq_getElem?_getD, List.getElem?_eq_getElem hlt]
     rw [← hel] at z0 z1 hl4 hC4
     simp only [Int.toNat_natCast] at z0 z1
     have Z1 := Aside0.mk z1
     replace z0 := cell_step z0 BA.out.bel
     replace z1 := cell_step z1 BA.out.bel
     have HE := Aside0.mk hel2
     have KE := Aside0.mk hC4
     have be : el.f1.length ≤ 9223372036854775807 := hC4.2.1
     have nf := (HO.out.fr hel2).1
     have nl := (HO.out.fr hel2).2.1
     have s0 := HV.out.vz el.f0
     have s3 := HV.out.vz (el.f1.length : Int)
     clear hel hel2 hC4 hl4
     have zp := trivial
     have za : (9223372036854775807 < (vt el.f0).size + (vt (el.f1.length : Int)).size) = False := eq_false (by omega)
     have zb : (9223372036854775807 < s.size + ((vt el.f0).size + (vt (el.f1.length : Int)).size)) = False := eq_false (by omega)
     go_upto_region 7 with (fail)
     obtain ⟨W1, hW1⟩ : ∃ W1, W1 = wr.alloc (.cells #[.int .i64 el.f0, .slice A1 el.f1.length c1_] 122) := ⟨_, rfl⟩
     have BF := Aside0.mk (show W1.heap[wr.heap.size]? = some (.cells ([.int .i64 el.f0, .slice A1 el.f1.length c1_] : List Value).toArray 122 (0, 0)) from by rw [hW1]; exact blk_new wr _)
     have HB1 := Aside0.mk (show Below wr.heap.size wr W1 from by rw [hW1]; exact below_alloc (Below.refl _ _) _)
     rw [← hW1]
     obtain ⟨gF, hgF⟩ : ∃ g, g = wr.heap.size := ⟨_, rfl⟩
     rw [← hgF] at BF ⊢
     clear hW1 z0 z1 hgF
     replace BA := Aside0.mk (BA.out.step HB1.out)
     clear HB1
     have hf0 : W1.cell? ⟨gF, 0, none⟩ = some (.int .i64 el.f0) := (blk_cell BF.out 0).trans rfl
     have hf1 : W1.cell? ⟨gF, 1, none⟩ = some (.slice A1 el.f1.length c1_) := (blk_cell BF.out 1).trans rfl
     have HK := Aside0.mk (Below.refl W1.heap.size W1).drew
     refine seq_start implMetaText.ok7_3 (S := fun w' => w'.cell? ⟨gF, 0, none⟩ = some (.int .i64 el.f0) ∧ w'.cell? ⟨gF, 1, none⟩ = some (.slice A1 el.f1.length c1_)) (by kernel_rfl) (fun _ _ _ _ h => h) ⟨cell_step hf0 HK.out, cell_step hf1 HK.out⟩ (fun hHeld => ?_)
     iterate 2 (refine seq_p (v := ?_) (a' := ?_) rfl rfl (Or.inl ⟨by rfl, ?_⟩) ?_ ?_; rotate_left; (· intro w'; go_simp; with_reducible rfl); rotate_left; (· show Act.put _ (some _) _ = _; simp only [Act.put, List.setIfInBounds_toArray, List.set_cons_zero, List.set_cons_succ, i64_w, i32_w]; try rfl))
     (refine seq_t (v := ?_) (a' := ?_) rfl rfl (Or.inl ⟨by rfl, ?_⟩) ?_ ?_; rotate_left; (· rintro w' ⟨s0, s1⟩; go_simp; with_reducible rfl); rotate_left; (· show Act.put _ (some _) _ = _; simp only [Act.put, List.setIfInBounds_toArray, List.set_cons_zero, List.set_cons_succ, i64_w, i32_w]; try rfl))
     (refine seq_p (v := ?_) (a' := ?_) rfl rfl (Or.inl ⟨by rfl, ?_⟩) ?_ ?_; rotate_left; (· intro w'; go_simp; with_reducible rfl); rotate_left; (· show Act.put _ (some _) _ = _; simp only [Act.put, List.setIfInBounds_toArray, List.set_cons_zero, List.set_cons_succ, i64_w, i32_w]; try rfl))
     (refine seq_t (v := ?_) (a' := ?_) rfl rfl (Or.inl ⟨by rfl, ?_⟩) ?_ ?_; rotate_left; (· rintro w' ⟨s0, s1⟩; go_simp; with_reducible rfl); rotate_left; (· show Act.put _ (some _) _ = _; simp only [Act.put, List.setIfInBounds_toArray, List.set_cons_zero, List.set_cons_succ, i64_w, i32_w]; try rfl))
     (refine seq_p (v := ?_) (a' := ?_) rfl rfl (Or.inl ⟨by rfl, ?_⟩) ?_ ?_; rotate_left; (· intro w'; go_simp; with_reducible rfl); rotate_left; (· show Act.put _ (some _) _ = _; simp only [Act.put, List.setIfInBounds_toArray, List.set_cons_zero, List.set_cons_succ, i64_w, i32_w]; try rfl))
     refine seq_call rfl rfl Try.func110 (by kernel_rfl) rfl #[.int .i64 el.f0] (by rfl) rfl (by (try simp only [List.map_toArray, List.map_cons, List.map_nil]); first | done | rfl) ?_
     with_reducible refine (varI HV.out el.f0 nf.1 nf.2 _).mono ?_
     rintro e w2 ⟨rfl, hb⟩
     replace HK := Aside0.mk (below_step HK.out hb)
     clear hb
     refine ⟨_, rfl, ⟨cell_step hf0 HK.out, cell_step hf1 HK.out⟩, (fun hHeld => ?_)⟩
     refine seq_norm (a' := ?_) ?_ ?_; rotate_left; (· show Act.put _ (some 38) _ = _; simp only [Act.put, List.setIfInBounds_toArray, List.set_cons_zero, List.set_cons_succ, i64_w, i32_w]; try rfl)
     refine seq_call rfl rfl Try.func110 (by kernel_rfl) rfl #[.int .i64 (el.f1.length : Int)] (by rfl) rfl (by (try simp only [List.map_toArray, List.map_cons, List.map_nil]); first | done | rfl) ?_
     with_reducible refine (varI HV.out (el.f1.length : Int) (by omega) (by omega) _).mono ?_
     rintro e w2 ⟨rfl, hb⟩
     replace HK := Aside0.mk (below_step HK.out hb)
     clear hb
     refine ⟨_, rfl, ⟨cell_step hf0 HK.out, cell_step hf1 HK.out⟩, (fun hHeld => ?_)⟩
     refine seq_norm (a' := ?_) ?_ ?_; rotate_left; (· show Act.put _ (some 42) _ = _; simp only [Act.put, List.setIfInBounds_toArray, List.set_cons_zero, List.set_cons_succ, i64_w, i32_w]; try rfl)
     iterate 3 (refine seq_p (v := ?_) (a' := ?_) rfl rfl (Or.inl ⟨by rfl, ?_⟩) ?_ ?_; rotate_left; (· intro w'; go_simp; with_reducible rfl); rotate_left; (· show Act.put _ (some _) _ = _; simp only [Act.put, List.setIfInBounds_toArray, List.set_cons_zero, List.set_cons_succ, i64_w, i32_w]; try rfl))
     refine seq_done ?_
     clear hHeld zp za zb
     obtain ⟨s1, hs1⟩ : ∃ s1, s1 = s ++ (vt el.f0 ++ vt (el.f1.length : Int)) := ⟨_, rfl⟩
     have hsz1 : s1.size ≤ 7016 := by rw [hs1, ByteArray.size_append, ByteArray.size_append]; omega
     rw [← hs1]
     have HS1 := Aside0.mk hs1
     clear hs1 hf0 hf1
     replace BA := Aside0.mk (BA.out.step HK.out)
     replace BF := Aside0.mk (blk_below BF.out HK.out)
     clear HK s0 s3
     have HK := trivial
     have hf1 : w2.cell? ⟨gF, 1, none⟩ = some (.slice A1 el.f1.length c1_) := (blk_cell BF.out 1).trans rfl
     go_wp2_with fail
     clear hf1 BF HK
     go_loopg [4, 48] (el.f1.length + 1) (fun kq v4 v6 w' => ∃ (j : Nat), v4 = .string (pacc vt s1 (el.f1.take j)) ∧ v6 = .int .i64 (j : Int) ∧ Aside0 (kq + j = el.f1.length + 1) ∧ Aside0 (j ≤ el.f1.length) ∧ Aside0 (BoxAt w w' [.int .i64 x.f0, .int .i64 x.f1, .int .i64 x.f2, .slice (some ad) x.f3.length cF]))
     case atStart => exact ⟨0, rfl, rfl, ⟨by omega⟩, ⟨Nat.zero_le _⟩, BA⟩
     case round =>
      clear BA
      obtain ⟨j, rfl, rfl, HQ2, HI2, BA⟩ := hrel
      obtain ⟨s2, hs2⟩ : ∃ s2, s2 = pacc vt s1 (el.f1.take j) := ⟨_, rfl⟩
      have hsz2 : s2.size ≤ 8000 := by
       have h1 := pacc_size HV.out.vz s1 (el.f1.take j)
       have h3 := List.length_take_le j el.f1
       have h4 := HI2.out
       rw [hs2]
       omega
      rw [← hs2]
      have HS2 := Aside0.mk hs2
      clear hs2
      by_cases hk : j < el.f1.length
      ·have d1 : decide ((j : Int) < (el.f1.length : Int)) = true := decide_eq_true (by omega)
       have d0 : decide ((0 : Int) ≤ (j : Int)) = true := decide_eq_true (by omega)
       have d2 : ((j : Int) < (el.f1.length : Int)) = True := eq_true (by omega)
       have d3 : ((0 : Int) ≤ (j : Int)) = True := eq_true (by omega)
       cases gk with
       | zero => exact absurd HQ2.out (by omega)
       | succ k2 =>
        obtain ⟨ap, hAp, pc⟩ := C_at KE.out hk
        subst hAp
        obtain ⟨p, hp⟩ : ∃ p, p = el.f1[j] := ⟨_, rfl⟩
        rw [← hp] at pc
        have HPK := Aside0.mk (show el.f1[j]? = some p from by rw [hp]; exact List.getElem?_eq_getElem hk)
        clear hp
        replace pc := cell_step pc BA.out.bel
        have np := (HO.out.fr HE.out).2.2 j p HPK.out
        have sp := HV.out.vz p
        have za : (9223372036854775807 < s2.size + (vt p).size) = False := eq_false (by omega)
        go_wp2_with ((with_reducible refine (varI HV.out p np.1 np.2 _).mono ?_); rintro e w2 ⟨rfl, hb⟩; have HB2 := Aside0.mk hb; clear hb pc )
        go_roundg k2
        case measure => omega
        case rel => exact ⟨j + 1, by rw [pacc_succ HPK.out, ← HS2.out], by go_num, ⟨by have := HQ2.out; omega⟩, ⟨by omega⟩, ⟨BA.out.step HB2.out⟩⟩
      ·have d1 : decide ((j : Int) < (el.f1.length : Int)) = false := decide_eq_false (by omega)
       have HJ := Aside0.mk (show j = el.f1.length by have := HI2.out; omega)
       go_wp2
       go_roundg k1
       case measure => omega
       case rel => exact ⟨i + 1, by rw [facc_succ HE.out, ← HSE.out, ByteArray.append_assoc, ← HS1.out, HS2.out, HJ.out, List.take_length], by go_num, ⟨by have := HQ.out; omega⟩, ⟨by omega⟩, BA⟩
   ·have c1 : decide ((i : Int) < (x.f3.length : Int)) = false := decide_eq_false (by omega)
    have hsb : s = mbody vt x := by rw [HSE.out, show i = x.f3.length by have := HI.out; omega, List.take_length]; rfl
    have HSB := Aside0.mk hsb
    clear hsb
    obtain ⟨t0, ht0⟩ : ∃ t0, t0 = s ++ sl s := ⟨_, rfl⟩
    have HT0 := Aside0.mk ht0
    have hsl4 : (sl s).size ≤ 4 := Nat.le_of_eq (HV.out.sz s)
    have hw : (240 < t0.size ∧ t = ⟨#[]⟩ ∧ ok = false) ∨ (t0.size ≤ 240 ∧ t = t0 ∧ ok = true) := by
     rcases HM.out with h | h | h
     ·exact absurd HO.out h.1
     ·exact .inl (by rw [ht0, HSB.out]; exact h.2)
     ·exact .inr (by rw [ht0, HSB.out]; exact h.2)
    clear ht0
    have zt : (9223372036854775807 < s.size + (sl s).size) = False := eq_false (by omega)
    rcases hw with ⟨h, rfl, rfl⟩ | ⟨h, he, rfl⟩
    ·have g1 : decide (240 < (t0.size : Int)) = true := decide_eq_true (by omega)
     have g2 : decide (240 < t0.size) = true := decide_eq_true h
     have hq : t0.size = s.size + (sl s).size := by rw [HT0.out, ByteArray.size_append]
     have g3 : decide (240 < (s.size : Int) + ((sl s).size : Int)) = true := decide_eq_true (by omega)
     have g4 : decide (240 < s.size + (sl s).size) = true := decide_eq_true (by omega)
     clear hq
     clear h
     go_wp2_with ((with_reducible refine (impl_seal.calls k s (sl s) _ (HV.out.sI s (by omega))).mono ?_); rintro e w2 ⟨rfl, hb⟩; have HB2 := Aside0.mk hb; clear hb)
     go_ret2
     exact ⟨by first | exact rt2 HT0.out.symm | rfl, below_step BA.out.bel HB2.out⟩
    ·obtain rfl : t0 = t := he.symm
     have g1 : decide (240 < (t0.size : Int)) = false := decide_eq_false (by omega)
     have g2 : decide (240 < t0.size) = false := decide_eq_false (by omega)
     have hq : t0.size = s.size + (sl s).size := by rw [HT0.out, ByteArray.size_append]
     have g3 : decide (240 < (s.size : Int) + ((sl s).size : Int)) = false := decide_eq_false (by omega)
     have g4 : decide (240 < s.size + (sl s).size) = false := decide_eq_false (by omega)
     clear hq
     clear h
     go_wp2_with ((with_reducible refine (impl_seal.calls k s (sl s) _ (HV.out.sI s (by omega))).mono ?_); rintro e w2 ⟨rfl, hb⟩; have HB2 := Aside0.mk hb; clear hb)
     go_ret2
     exact ⟨by first | exact rt2 HT0.out.symm | rfl, below_step BA.out.bel HB2.out⟩
 ·have HO := Aside0.mk hh
  obtain ⟨ht, hk⟩ : t = ⟨#[]⟩ ∧ ok = false := by
   rcases HM.out with h | h | h
   ·exact h.2
   ·exact absurd h.1 hh
   ·exact absurd h.1 hh
  subst ht
  subst hk
  clear hh
  go_enter Try.func99, Try.ntmps99
  go_wp2_with (first | ((with_reducible refine gate_dst (N := 9) rfl ?_); refine ev_loadpart rfl 53 _ rfl w.heap.size 0 [] [.int .i64 x.f0, .int .i64 x.f1, .int .i64 x.f2, .slice AF x.f3.length cF] [] _ rfl BA.out.box rfl rfl Try.underlying53 rfl (by kernel_rfl) ?_) | ((with_reducible refine (implMetaOk_c x false _ (k53.K_below BA.out.bel KM.out) ⟨fun h => (by cases h), fun h => absurd h HO.out⟩).mono ?_); rintro e w1 ⟨rfl, hb⟩; have BA1 := Aside0.mk (BA.out.step hb); clear hb))
  go_ret2
  exact ⟨rfl, BA1.out.bel⟩
theorem implNM_w {k : Nat} {vt : Int → ByteArray} {sl : ByteArray → ByteArray} (T : TxF k vt sl) (x : S53) (l0 : List ByteArray) (l1 : List S135) (l2 : Int) (l3 l4 l5 : List Int) (n : Int) (t : ByteArray) (b : Bool) {cs : List Value} (w : World) (h : kTxn.K w (x, (l0, l1, l2, l3, l4, l5), n) cs) (hx : SmallM x) (hl : l3.length ≤ 2000000 ∧ l4.length ≤ 2000000 ∧ l5.length ≤ 2000000) (hm : MTxt vt sl (nmM (wrap64 (x.f0 + 1)) n l2 x l3 l4 l5) t b) :
  Calls Try.prog 40 #[.agg cs.toArray] w fun e w' => ∃ ds : List Value, e = .returned (.tuple #[.agg ds.toArray, .bool b]) ∧ k53.M w' w.heap.size (Fr w w') (if b = true then nmM (wrap64 (x.f0 + 1)) n l2 x l3 l4 l5 else ⟨0, 0, 0, []⟩) ds ∧ Below w.heap.size w w' := by
 obtain ⟨cM, _, rfl, hM, cW, cI, rfl, hW, hI⟩ := h
 obtain rfl : cI = [.int .i64 n] := hI
 obtain ⟨AF, cF, rfl, mF, rF⟩ := k53_open hM
 obtain ⟨A0, c0, A1, c1, A3, c3, A4, c4, A5, c5, rfl, m0, r0, m1, r1, m3, r3, m4, r4, m5, r5⟩ := kWork_open hW
 simp only [List.cons_append, List.nil_append]
 have HTX := Aside0.mk (show wrap64 (x.f0 + 1) = wrap64 (x.f0 + 1) from rfl)
 have HM := Aside0.mk hm
 have HV := Aside0.mk T
 have KR := Aside0.mk rF
 have KU := Aside0.mk r3
 have KG := Aside0.mk (And.intro m4 r4)
 have KF := Aside0.mk r5
 have HX := Aside0.mk hx
 have bn : x.f3.length ≤ 2000000 := hx.1
 have b3 := hl.1
 have b4 := hl.2.1
 have b5 := hl.2.2
 clear hM hW mF rF m0 r0 m1 r1 m3 r3 m4 r4 m5 r5 T hm hx hl
 go_enter Try.func40, Try.ntmps40
 go_upto_region 2 with (fail)
 obtain ⟨W1, hW1⟩ : ∃ W1, W1 = ((w.alloc (.cells #[.int .i64 x.f0, .int .i64 x.f1, .int .i64 x.f2, .slice AF x.f3.length cF, .slice A0 l0.length c0, .slice A1 l1.length c1, .int .i64 l2, .slice A3 l3.length c3, .slice A4 l4.length c4, .slice A5 l5.length c5, .int .i64 n] 56)).alloc (.cells #[.int .i64 0, .int .i64 0, .int .i64 0, .slice none 0 0] 53)).alloc (.cells #[.int .i64 (wrap64 (x.f0 + 1)), .int .i64 n, .int .i64 l2, .slice none 0 0] 53) := ⟨_, rfl⟩
 have HN := Aside0.mk (show NB w W1 [.int .i64 x.f0, .int .i64 x.f1, .int .i64 x.f2, .slice AF x.f3.length cF, .slice A0 l0.length c0, .slice A1 l1.length c1, .int .i64 l2, .slice A3 l3.length c3, .slice A4 l4.length c4, .slice A5 l5.length c5, .int .i64 n] (w.heap.size + 1 + 1) [.int .i64 (wrap64 (x.f0 + 1)), .int .i64 n, .int .i64 l2] (.slice none 0 0) from by rw [hW1]; exact nb0 w [.int .i64 x.f0, .int .i64 x.f1, .int .i64 x.f2, .slice AF x.f3.length cF, .slice A0 l0.length c0, .slice A1 l1.length c1, .int .i64 l2, .slice A3 l3.length c3, .slice A4 l4.length c4, .slice A5 l5.length c5, .int .i64 n] [.int .i64 (wrap64 (x.f0 + 1)), .int .i64 n, .int .i64 l2])
 rw [← hW1]
 clear hW1
 have hp3 : W1.cell? ⟨w.heap.size, 3, none⟩ = some (.slice AF x.f3.length cF) := (blk_cell HN.out.A 3).trans rfl
 go_wp2_with fail
 clear hp3
 go_loopg [27] (x.f3.length + 1) (fun kq v27 w' => ∃ (i : Nat) (v : Value), v27 = .int .i64 (i : Int) ∧ Aside0 (kq + i = x.f3.length + 1) ∧ Aside0 (i ≤ x.f3.length) ∧ Aside0 (NB w w' [.int .i64 x.f0, .int .i64 x.f1, .int .i64 x.f2, .slice AF x.f3.length cF, .slice A0 l0.length c0, .slice A1 l1.length c1, .int .i64 l2, .slice A3 l3.length c3, .slice A4 l4.length c4, .slice A5 l5.length c5, .int .i64 n] (w.heap.size + 1 + 1) [.int .i64 (wrap64 (x.f0 + 1)), .int .i64 n, .int .i64 l2] v) ∧ Aside0 (Kd.S k122 122 w' w.heap.size (fun k => w.heap.size + 1 + 1 < k) v (nmF l5 (x.f3.take i))))
 case atStart => exact ⟨0, _, rfl, ⟨by omega⟩, ⟨Nat.zero_le _⟩, HN, ⟨Kd.S_nil _ _ _ _ _⟩⟩
 case round =>
  clear HN
  obtain ⟨i, v, rfl, HQ, HI, HN, HS⟩ := hrel
  obtain ⟨fs, hfs⟩ : ∃ fs, fs = nmF l5 (x.f3.take i) := ⟨_, rfl⟩
  have hfl : fs.length ≤ 2000000 := by
   have h1 := nmF_len l5 (x.f3.take i)
   have h2 := List.length_take_le i x.f3
   have h3 := HI.out
   rw [hfs]
   omega
  rw [← hfs] at HS
  have HFS := Aside0.mk hfs
  clear hfs
  obtain ⟨Av, cv, rfl⟩ := Kd.S_slice HS.out
  by_cases hlt : i < x.f3.length
  ·have e1 : decide ((i : Int) < (x.f3.length : Int)) = true := decide_eq_true (by omega)
   have e0 : decide ((0 : Int) ≤ (i : Int)) = true := decide_eq_true (by omega)
   have e2 : ((i : Int) < (x.f3.length : Int)) = True := eq_true (by omega)
   have e3 : ((0 : Int) ≤ (i : Int)) = True := eq_true (by omega)
   cases gk with
   | zero => exact absurd HQ.out (by omega)
   | succ k1 =>
    obtain ⟨ad, A1_, c1_, hA, z0, z1, hl4, hC4⟩ := at_T122 KR.out (i : Int) (by omega) (by omega)
    subst hA
    obtain ⟨el, hel⟩ : ∃ el, el = rd_T122 x.f3 (i : Int) := ⟨_, rfl⟩
    have hel2 : x.f3[i]? = some el := by rw [hel]; simp [rd_T122, List.getD_eq_getElem?_getD, List.getElem?_eq_getElem hlt]
    rw [← hel] at z0 z1 hl4 hC4
    simp only [Int.toNat_natCast] at z0 z1
    replace z0 := cell_step z0 HN.out.bel
    replace z1 := cell_step z1 HN.out.bel
    have HE := Aside0.mk hel2
    have KE := Aside0.mk (And.intro hl4 hC4)
    have hle : el.f1.length ≤ 2000000 := HX.out.2 el (List.mem_of_getElem? hel2)
    clear hel hel2 hC4 hl4
    go_upto_region 5 with (fail)
    obtain ⟨W1, hW1⟩ : ∃ W1, W1 = wr.alloc (.cells #[.int .i64 el.f0, .slice A1_ el.f1.length c1_] 122) := ⟨_, rfl⟩
    have BF := Aside0.mk (show W1.heap[wr.heap.size]? = some (.cells ([.int .i64 el.f0, .slice A1_ el.f1.length c1_] : List Value).toArray 122 (0, 0)) from by rw [hW1]; exact blk_new wr _)
    have HB1 := Aside0.mk (show Below wr.heap.size wr W1 from by rw [hW1]; exact below_alloc (Below.refl _ _) _)
    rw [← hW1]
    obtain ⟨gF, hgF⟩ : ∃ g, g = wr.heap.size := ⟨_, rfl⟩
    have HS1 := Aside0.mk (Kd.S_mono (Kd.S_below (Kd.S_bound HS.out) HB1.out) (ok' := fun k => w.heap.size + 1 + 1 < k ∧ k < gF) (fun k hk => ⟨hk.1, by rw [hgF]; exact hk.2.2.1⟩))
    have hGF : w.heap.size + 1 + 1 < gF := by rw [hgF]; exact blk_lt HN.out.B
    replace HN := Aside0.mk (HN.out.step HB1.out)
    rw [← hgF] at BF ⊢
    clear hW1 z0 z1 hgF HB1 HS
    have hf1 : W1.cell? ⟨gF, 1, none⟩ = some (.slice A1_ el.f1.length c1_) := (blk_cell BF.out 1).trans rfl
    have KA := Aside0.mk (show (Own.arow 3 (Kd.int .i64)).K W1 el.f1 [.slice A1_ el.f1.length c1_] from ⟨_, _, rfl, KE.out.1, Kd.C_below KE.out.2 HN.out.bel⟩)
    obtain ⟨ps, hps⟩ : ∃ ps, ps = el.f1.filter (kp l5) := ⟨_, rfl⟩
    have HPS := Aside0.mk hps
    clear hps
    by_cases hpos : 0 < ps.length
    ·have d1 : decide ((0 : Int) < (ps.length : Int)) = true := decide_eq_true (by omega)
     have d2 : decide (0 < ps.length) = true := decide_eq_true hpos
     go_wp2_with fail
     (with_reducible refine (cloneInts_c el.f1 _ KA.out hle).mono ?_)
     rintro e w2 ⟨u, rfl, M, hb⟩
     have HN2 := Aside0.mk (HN.out.step hb)
     have BF2 := Aside0.mk (blk_below BF.out hb)
     have HS2 := Aside0.mk (Kd.S_below HS1.out hb)
     have RO2 := Aside0.mk (Kd.R_mono (Kd.R_lower (own_of_S M) HN.out.bel.size) (ok' := fun k => gF < k) (fun k hk => Nat.lt_of_lt_of_le (blk_lt BF.out) hk.1))
     obtain ⟨Au, cu, rfl⟩ := Kd.R_slice (own_of_S M)
     clear M hb
     have HFR := Aside0.mk (HN2.out.fr (fr := l5) rfl KF.out (row := (Value.slice Au el.f1.length cu).ownBlock) (fun k hk => by have h_ : gF < k := RO2.out.1 k hk; omega))
     go_wp2_with fail
     (with_reducible refine (deleteFunc_c el.f1 l5 _ RO2.out HFR.out b5 hle).mono ?_)
     rintro e w3 ⟨A8, c8, rfl, hr, hg⟩
     rw [← HPS.out] at hr ⊢
     have RO3 := Aside0.mk hr
     have HN3 := Aside0.mk (HN2.out.grown hg (fun k hk => by have h_ : gF < k := RO2.out.1 k hk; omega))
     have HS3 := Aside0.mk (Kd.S_grown HS2.out hg (fun k hk e => by have h_ : gF < k := RO2.out.1 k e.symm; omega))
     have BF3 := Aside0.mk (blk_grown BF2.out hg (fun e => by have h_ : gF < gF := RO2.out.1 _ e.symm; omega))
     clear hr hg hf1
     have hg3 : w3.cell? ⟨w.heap.size + 1 + 1, 3, none⟩ = some (.slice Av fs.length cv) := (blk_cell HN3.out.B 3).trans rfl
     have hf0 : w3.cell? ⟨gF, 0, none⟩ = some (.int .i64 el.f0) := (blk_cell BF3.out 0).trans rfl
     go_wp2_with (first | ((with_reducible refine gate_builtin (b := .append) (xs := #[.tmp 40, .tmp 45]) rfl ?_); at_builtin; refine nm_app (p := (⟨el.f0, ps⟩ : S122)) (okp := fun k => gF < k) rfl (.tmp 40) (.tmp 45) rfl rfl rfl HN3.out (Kd.S_mono HS3.out (fun k hk => ⟨hk.1, by omega⟩)) (k122_mkM _ _ _ (⟨el.f0, ps⟩ : S122) RO3.out) (fun k hk => by omega) hfl ?_; intro v1 w4 HN4 HS4; obtain ⟨A9, c9, rfl⟩ := Kd.S_slice HS4.out; obtain ⟨nn, hnn⟩ : ∃ m, m = (fs ++ [(⟨el.f0, ps⟩ : S122)]).length := ⟨_, rfl⟩; simp only [← hnn] at HS4 ⊢; clear hg3 hf0 hnn) | ((with_reducible refine gate_store (t := 51) (p := 47) rfl ?_); refine ev_storecell rfl 51 _ _ rfl rfl (w.heap.size + 1 + 1) 3 (.slice A9 nn c9) (.slice Av fs.length cv) [.int .i64 (wrap64 (x.f0 + 1)), .int .i64 n, .int .i64 l2] [] rfl rfl HN4.out.B rfl rfl (by kernel_rfl) rfl rfl ?_; intro W5 hp hn; have HN5 := Aside0.mk (HN4.out.put hp hn); have HS5 := Aside0.mk (putS HS4.out hp (fun k h e => by omega)); clear hp hn))
     go_roundg k1
     case measure => omega
     case rel => exact ⟨i + 1, _, by go_num, ⟨by have := HQ.out; omega⟩, ⟨by omega⟩, HN5, ⟨by rw [nmF_succ l5 HE.out, ← HFS.out, ← HPS.out, if_pos hpos]; exact HS5.out⟩⟩
    ·have d1 : decide ((0 : Int) < (ps.length : Int)) = false := decide_eq_false (by omega)
     have d2 : decide (0 < ps.length) = false := decide_eq_false hpos
     go_wp2_with fail
     (with_reducible refine (cloneInts_c el.f1 _ KA.out hle).mono ?_)
     rintro e w2 ⟨u, rfl, M, hb⟩
     have HN2 := Aside0.mk (HN.out.step hb)
     have BF2 := Aside0.mk (blk_below BF.out hb)
     have HS2 := Aside0.mk (Kd.S_below HS1.out hb)
     have RO2 := Aside0.mk (Kd.R_mono (Kd.R_lower (own_of_S M) HN.out.bel.size) (ok' := fun k => gF < k) (fun k hk => Nat.lt_of_lt_of_le (blk_lt BF.out) hk.1))
     obtain ⟨Au, cu, rfl⟩ := Kd.R_slice (own_of_S M)
     clear M hb
     have HFR := Aside0.mk (HN2.out.fr (fr := l5) rfl KF.out (row := (Value.slice Au el.f1.length cu).ownBlock) (fun k hk => by have h_ : gF < k := RO2.out.1 k hk; omega))
     go_wp2_with fail
     (with_reducible refine (deleteFunc_c el.f1 l5 _ RO2.out HFR.out b5 hle).mono ?_)
     rintro e w3 ⟨A8, c8, rfl, hr, hg⟩
     rw [← HPS.out] at hr ⊢
     have RO3 := Aside0.mk hr
     have HN3 := Aside0.mk (HN2.out.grown hg (fun k hk => by have h_ : gF < k := RO2.out.1 k hk; omega))
     have HS3 := Aside0.mk (Kd.S_grown HS2.out hg (fun k hk e => by have h_ : gF < k := RO2.out.1 k e.symm; omega))
     have BF3 := Aside0.mk (blk_grown BF2.out hg (fun e => by have h_ : gF < gF := RO2.out.1 _ e.symm; omega))
     clear hr hg hf1
     have hg3 : w3.cell? ⟨w.heap.size + 1 + 1, 3, none⟩ = some (.slice Av fs.length cv) := (blk_cell HN3.out.B 3).trans rfl
     have hf0 : w3.cell? ⟨gF, 0, none⟩ = some (.int .i64 el.f0) := (blk_cell BF3.out 0).trans rfl
     clear hg3 hf0
     go_wp2
     go_roundg k1
     case measure => omega
     case rel => exact ⟨i + 1, _, by go_num, ⟨by have := HQ.out; omega⟩, ⟨by omega⟩, HN3, ⟨by rw [nmF_succ l5 HE.out, ← HFS.out, ← HPS.out, if_neg hpos, List.append_nil]; exact Kd.S_mono HS3.out (fun k hk => hk.1)⟩⟩
  ·have e1 : decide ((i : Int) < (x.f3.length : Int)) = false := decide_eq_false (by omega)
   have hfx : fs = nmF l5 x.f3 := by rw [HFS.out, show i = x.f3.length by have := HI.out; omega, List.take_length]
   have HFX := Aside0.mk hfx
   clear hfx
   have hA8 : wr.cell? ⟨w.heap.size, 8, none⟩ = some (.slice A4 l4.length c4) := (blk_cell HN.out.A 8).trans rfl
   have KA := Aside0.mk (show (Own.arow 3 (Kd.int .i64)).K wr l4 [.slice A4 l4.length c4] from ⟨_, _, rfl, KG.out.1, Kd.C_below KG.out.2 HN.out.bel⟩)
   go_wp2_with fail
   (with_reducible refine (cloneInts_c l4 _ KA.out b4).mono ?_)
   rintro e w2 ⟨u, rfl, M, hb⟩
   obtain ⟨T, hT⟩ : ∃ T, T = wr.heap.size := ⟨_, rfl⟩
   have HS2 := Aside0.mk (Kd.S_mono (Kd.S_below (Kd.S_bound HS.out) hb) (ok' := fun k => w.heap.size + 1 + 1 < k ∧ k < T) (fun k hk => ⟨hk.1, by rw [hT]; exact hk.2.2.1⟩))
   have HGT := Aside0.mk (show T ≤ w2.heap.size ∧ w.heap.size + 1 + 1 < T from ⟨by rw [hT]; exact hb.size, by rw [hT]; exact blk_lt HN.out.B⟩)
   have HN2 := Aside0.mk (HN.out.step hb)
   have RO2 := Aside0.mk (Kd.R_mono (Kd.R_lower (own_of_S M) HN.out.bel.size) (ok' := fun k => T ≤ k) (fun k hk => by rw [hT]; exact hk.1))
   clear M hb hT HN HS KA hA8 e1
   have hA7 : w2.cell? ⟨w.heap.size, 7, none⟩ = some (.slice A3 l3.length c3) := (blk_cell HN2.out.A 7).trans rfl
   go_wp2_with fail
   clear hA7
   go_loopg [8, 57] (l3.length + 1) (fun kq v8 v57 w' => ∃ (j : Nat) (vo : Value), v8 = vo ∧ v57 = .int .i64 (j : Int) ∧ Aside0 (kq + j = l3.length + 1) ∧ Aside0 (j ≤ l3.length) ∧ Aside0 (NB w w' [.int .i64 x.f0, .int .i64 x.f1, .int .i64 x.f2, .slice AF x.f3.length cF, .slice A0 l0.length c0, .slice A1 l1.length c1, .int .i64 l2, .slice A3 l3.length c3, .slice A4 l4.length c4, .slice A5 l5.length c5, .int .i64 n] (w.heap.size + 1 + 1) [.int .i64 (wrap64 (x.f0 + 1)), .int .i64 n, .int .i64 l2] (.slice Av fs.length cv)) ∧ Aside0 (Kd.S k122 122 w' w.heap.size (fun k => w.heap.size + 1 + 1 < k ∧ k < T) (.slice Av fs.length cv) fs) ∧ Aside0 (Kd.R (Kd.int .i64) 3 w' w.heap.size (fun k => T ≤ k) vo (l4 ++ (l3.take j).filter (fun p => decide (x.f2 ≤ p)))) ∧ Aside0 (T ≤ w'.heap.size ∧ w.heap.size + 1 + 1 < T))
   case atStart => exact ⟨0, _, rfl, rfl, ⟨by omega⟩, ⟨Nat.zero_le _⟩, HN2, HS2, ⟨by rw [List.take_zero, List.filter_nil, List.append_nil]; exact RO2.out⟩, HGT⟩
   case round =>
    clear HN2 HS2 RO2 HGT
    obtain ⟨j, vo, rfl, rfl, HQ2, HJ, HN, HS, HO, HGT⟩ := hrel
    obtain ⟨xs, hxs⟩ : ∃ xs, xs = l4 ++ (l3.take j).filter (fun p => decide (x.f2 ≤ p)) := ⟨_, rfl⟩
    have hxl : xs.length ≤ 4000000 := by
     have h1 := List.length_filter_le (fun p => decide (x.f2 ≤ p)) (l3.take j)
     have h2 := List.length_take_le j l3
     have h3 := HJ.out
     rw [hxs, List.length_append]
     omega
    rw [← hxs] at HO
    have HXS := Aside0.mk hxs
    clear hxs
    obtain ⟨Ao, co, rfl⟩ := Kd.R_slice HO.out
    by_cases hlt : j < l3.length
    ·have d1 : decide ((j : Int) < (l3.length : Int)) = true := decide_eq_true (by omega)
     have d0 : decide ((0 : Int) ≤ (j : Int)) = true := decide_eq_true (by omega)
     have d2 : ((j : Int) < (l3.length : Int)) = True := eq_true (by omega)
     have d3 : ((0 : Int) ≤ (j : Int)) = True := eq_true (by omega)
     cases gk with
     | zero => exact absurd HQ2.out (by omega)
     | succ k2 =>
      obtain ⟨ap, hAp, pc⟩ := C_at KU.out hlt
      subst hAp
      obtain ⟨p, hp⟩ : ∃ p, p = l3[j] := ⟨_, rfl⟩
      rw [← hp] at pc
      have HPK := Aside0.mk (show l3[j]? = some p from by rw [hp]; exact List.getElem?_eq_getElem hlt)
      clear hp
      replace pc := cell_step pc HN.out.bel
      have hA2 : wr.cell? ⟨w.heap.size, 2, none⟩ = some (.int .i64 x.f2) := (blk_cell HN.out.A 2).trans rfl
      by_cases hp : x.f2 ≤ p
      ·have g1 : decide (x.f2 ≤ p) = true := decide_eq_true hp
       go_wp2_with ((with_reducible refine gate_builtin (b := .append) (xs := #[.tmp 66, .tmp 68]) rfl ?_); at_builtin; refine own_app rfl (.tmp 66) (.tmp 68) rfl rfl rfl HN.out HS.out HO.out HGT.out hxl ?_; intro v1 w4 HN4 HS4 HO4 HT4; clear pc hA2)
       go_roundg k2
       case measure => omega
       case rel => exact ⟨j + 1, _, rfl, by go_num, ⟨by have := HQ2.out; omega⟩, ⟨by omega⟩, HN4, HS4, ⟨by rw [own_succ x.f2 HPK.out, ← HXS.out, if_pos hp]; exact HO4.out⟩, ⟨HT4.out, HGT.out.2⟩⟩
      ·have g1 : decide (x.f2 ≤ p) = false := decide_eq_false hp
       go_wp2
       go_roundg k2
       case measure => omega
       case rel => exact ⟨j + 1, _, rfl, by go_num, ⟨by have := HQ2.out; omega⟩, ⟨by omega⟩, HN, HS, ⟨by rw [own_succ x.f2 HPK.out, ← HXS.out, if_neg (by omega), List.append_nil]; exact HO.out⟩, HGT⟩
    ·have d1 : decide ((j : Int) < (l3.length : Int)) = false := decide_eq_false (by omega)
     have hsx : srt xs = nmOwn x.f2 l3 l4 := by rw [HXS.out, show j = l3.length by have := HJ.out; omega, List.take_length]; rfl
     have HSX := Aside0.mk hsx
     clear hsx
     go_wp2_with fail
     (with_reducible refine (sort_own (Kd.R_mono HO.out (fun _ _ => trivial)) hxl).mono ?_)
     rintro e w5 ⟨rfl, ho, hg⟩
     have hown : ∀ k, (Value.slice Ao xs.length co).ownBlock = some k → T ≤ k := HO.out.1
     have HO5 := Aside0.mk (R_ints ho hown)
     have HN5 := Aside0.mk (HN.out.grown hg (fun k hk => by have := hown k hk; have := HGT.out.2; omega))
     have HS5 := Aside0.mk (Kd.S_grown HS.out hg (fun k hk e => by have := hown k e.symm; have := hk.2; omega))
     have HG5 := Aside0.mk HGT.out.2
     clear ho hg hown HO HN HS HGT d1
     have hg3 : w5.cell? ⟨w.heap.size + 1 + 1, 3, none⟩ = some (.slice Av fs.length cv) := (blk_cell HN5.out.B 3).trans rfl
     have hg0 : w5.cell? ⟨w.heap.size + 1 + 1, 0, none⟩ = some (.int .i64 (wrap64 (x.f0 + 1))) := (blk_cell HN5.out.B 0).trans rfl
     by_cases hpos : 0 < xs.length
     ·have g1 : decide ((0 : Int) < (xs.length : Int)) = true := decide_eq_true (by omega)
      have g2 : decide (0 < xs.length) = true := decide_eq_true hpos
      have hmf : (nmM (wrap64 (x.f0 + 1)) n l2 x l3 l4 l5).f3 = fs ++ [(⟨wrap64 (x.f0 + 1), srt xs⟩ : S122)] := by
       show nmF l5 x.f3 ++ _ = _
       rw [← HSX.out, ← HFX.out, if_pos (by rw [srt_len]; exact hpos)]
      have HMF := Aside0.mk hmf
      clear hmf
      go_upto_region 19 with (first | ((with_reducible refine gate_builtin (b := .append) (xs := #[.tmp 77, .tmp 82]) rfl ?_); at_builtin; refine nm_app (p := (⟨wrap64 (x.f0 + 1), srt xs⟩ : S122)) (okp := fun k => T ≤ k) rfl (.tmp 77) (.tmp 82) rfl rfl rfl HN5.out (Kd.S_mono HS5.out (fun k hk => ⟨hk.1, by omega⟩)) (k122_mkM _ _ _ (⟨wrap64 (x.f0 + 1), srt xs⟩ : S122) HO5.out) (fun k hk => by have := HG5.out; omega) hfl ?_; intro v1 w6 HN6 HS6; obtain ⟨A9, c9, rfl⟩ := Kd.S_slice HS6.out; obtain ⟨nn, hnn⟩ : ∃ m, m = (fs ++ [(⟨wrap64 (x.f0 + 1), srt xs⟩ : S122)]).length := ⟨_, rfl⟩; simp only [← hnn] at HS6 ⊢; clear hg3 hg0; have HNN := Aside0.mk hnn; clear hnn) | ((with_reducible refine gate_store (t := 51) (p := 84) rfl ?_); refine ev_storecell rfl 51 _ _ rfl rfl (w.heap.size + 1 + 1) 3 (.slice A9 nn c9) (.slice Av fs.length cv) [.int .i64 (wrap64 (x.f0 + 1)), .int .i64 n, .int .i64 l2] [] rfl rfl HN6.out.B rfl rfl (by kernel_rfl) rfl rfl ?_; intro W7 hp hn; have HN7 := Aside0.mk (HN6.out.put hp hn); have HS7 := Aside0.mk (putS HS6.out hp (fun k h e => by omega)); clear hp hn))
      have hsl := Kd.S_reads' HS7.out
      obtain ⟨hs1, hs2, hs3⟩ := hsl
      have HK := Aside0.mk (show k53.K W7 (nmM (wrap64 (x.f0 + 1)) n l2 x l3 l4 l5) [.int .i64 (wrap64 (x.f0 + 1)), .int .i64 n, .int .i64 l2, .slice A9 nn c9] from by have h := k53_mk (A3 := A9) (c3 := c9) W7 (nmM (wrap64 (x.f0 + 1)) n l2 x l3 l4 l5) (by rw [HMF.out, ← hs1]; exact hs2) (by rw [HMF.out]; exact hs3); rwa [HMF.out, ← hs1] at h)
      have HSM := Aside0.mk (show Kd.S k122 122 W7 w.heap.size (fun k => w.heap.size + 1 + 1 < k) (.slice A9 nn c9) (nmM (wrap64 (x.f0 + 1)) n l2 x l3 l4 l5).f3 from by rw [HMF.out]; exact HS7.out)
      clear hs1 hs2 hs3
      cases b with
      | false =>
       go_wp2_with (first | ((with_reducible refine gate_dst (N := 86) rfl ?_); refine ev_loadpart rfl 53 _ rfl (w.heap.size + 1 + 1) 0 [] [.int .i64 (wrap64 (x.f0 + 1)), .int .i64 n, .int .i64 l2, .slice A9 nn c9] [] _ rfl HN7.out.B rfl rfl Try.underlying53 rfl (by kernel_rfl) ?_) | ((with_reducible refine (implMetaText_c HV.out _ t false _ HK.out HM.out).mono ?_); rintro e w8 ⟨rfl, hb⟩; have HN8 := Aside0.mk (HN7.out.step hb); have HS8 := Aside0.mk (Kd.S_below HSM.out hb); clear hb) | ((with_reducible refine gate_store (t := 53) (p := 2) rfl ?_); refine ev_storepart rfl 53 _ _ rfl rfl (w.heap.size + 1) 0 [.int .i64 0, .int .i64 0, .int .i64 0, .slice none 0 0] [] [.int .i64 0, .int .i64 0, .int .i64 0, .slice none 0 0] [] rfl rfl HN8.out.R rfl rfl rfl (by kernel_rfl) (fun v hv => by simp only [List.mem_cons, List.not_mem_nil, or_false] at hv; rcases hv with rfl | rfl | rfl | rfl <;> rfl) ?_; intro W9 hp hn; have HR9 := Aside0.mk hn; have HP9 := Aside0.mk hp; clear hp hn))
       refine bodyPost_ret (results_list (rs := [.cell 2 53, .tmp 3]) rfl (by simp) (.cell (w.heap.size + 1) 53 _ _ _ rfl HR9.out Try.underlying53 rfl (by kernel_rfl) (.tmp .nil))) rfl ?_
       have hb9 := HP9.out.below w (by omega) HN8.out.bel
       exact ⟨_, rfl, k53_mkM _ _ _ (⟨0, 0, 0, []⟩ : S53) (Kd.S_nil _ _ _ _ _), hb9⟩
      | true =>
       go_wp2_with (first | ((with_reducible refine gate_dst (N := 86) rfl ?_); refine ev_loadpart rfl 53 _ rfl (w.heap.size + 1 + 1) 0 [] [.int .i64 (wrap64 (x.f0 + 1)), .int .i64 n, .int .i64 l2, .slice A9 nn c9] [] _ rfl HN7.out.B rfl rfl Try.underlying53 rfl (by kernel_rfl) ?_) | ((with_reducible refine (implMetaText_c HV.out _ t true _ HK.out HM.out).mono ?_); rintro e w8 ⟨rfl, hb⟩; have HN8 := Aside0.mk (HN7.out.step hb); have HS8 := Aside0.mk (Kd.S_below HSM.out hb); clear hb) | ((with_reducible refine gate_dst (N := 93) rfl ?_); refine ev_loadpart rfl 53 _ rfl (w.heap.size + 1 + 1) 0 [] [.int .i64 (wrap64 (x.f0 + 1)), .int .i64 n, .int .i64 l2, .slice A9 nn c9] [] _ rfl HN8.out.B rfl rfl Try.underlying53 rfl (by kernel_rfl) ?_) | ((with_reducible refine gate_store (t := 53) (p := 2) rfl ?_); refine ev_storepart rfl 53 _ _ rfl rfl (w.heap.size + 1) 0 [.int .i64 (wrap64 (x.f0 + 1)), .int .i64 n, .int .i64 l2, .slice A9 nn c9] [] [.int .i64 0, .int .i64 0, .int .i64 0, .slice none 0 0] [] rfl rfl HN8.out.R rfl rfl rfl (by kernel_rfl) (fun v hv => by simp only [List.mem_cons, List.not_mem_nil, or_false] at hv; rcases hv with rfl | rfl | rfl | rfl <;> rfl) ?_; intro W9 hp hn; have HR9 := Aside0.mk hn; have HP9 := Aside0.mk hp; clear hp hn))
       refine bodyPost_ret (results_list (rs := [.cell 2 53, .tmp 3]) rfl (by simp) (.cell (w.heap.size + 1) 53 _ _ _ rfl HR9.out Try.underlying53 rfl (by kernel_rfl) (.tmp .nil))) rfl ?_
       have hb9 := HP9.out.below w (by omega) HN8.out.bel
       have hS := putS HS8.out HP9.out (fun k h e => by omega)
       exact ⟨_, rfl, k53_mkM _ _ _ (nmM (wrap64 (x.f0 + 1)) n l2 x l3 l4 l5) (Kd.S_mono (Kd.S_bound hS) (fun k hk => ⟨hk.2.1, hk.2.2.1⟩)), hb9⟩
     ·have g1 : decide ((0 : Int) < (xs.length : Int)) = false := decide_eq_false (by omega)
      have g2 : decide (0 < xs.length) = false := decide_eq_false hpos
      have hmf : (nmM (wrap64 (x.f0 + 1)) n l2 x l3 l4 l5).f3 = fs := by
       show nmF l5 x.f3 ++ _ = _
       rw [← HSX.out, ← HFX.out, if_neg (by rw [srt_len]; exact hpos), List.append_nil]
      have HMF := Aside0.mk hmf
      clear hmf
      go_upto_region 19 with (fail)
      clear hg3 hg0
      have hsl := Kd.S_reads' HS5.out
      obtain ⟨hs1, hs2, hs3⟩ := hsl
      have HK := Aside0.mk (show k53.K w5 (nmM (wrap64 (x.f0 + 1)) n l2 x l3 l4 l5) [.int .i64 (wrap64 (x.f0 + 1)), .int .i64 n, .int .i64 l2, .slice Av fs.length cv] from by have h := k53_mk (A3 := Av) (c3 := cv) w5 (nmM (wrap64 (x.f0 + 1)) n l2 x l3 l4 l5) (by rw [HMF.out]; exact hs2) (by rw [HMF.out]; exact hs3); rwa [HMF.out] at h)
      have HSM := Aside0.mk (show Kd.S k122 122 w5 w.heap.size (fun k => w.heap.size + 1 + 1 < k) (.slice Av fs.length cv) (nmM (wrap64 (x.f0 + 1)) n l2 x l3 l4 l5).f3 from by rw [HMF.out]; exact Kd.S_mono HS5.out (fun k hk => hk.1))
      clear hs1 hs2 hs3
      cases b with
      | false =>
       go_wp2_with (first | ((with_reducible refine gate_dst (N := 86) rfl ?_); refine ev_loadpart rfl 53 _ rfl (w.heap.size + 1 + 1) 0 [] [.int .i64 (wrap64 (x.f0 + 1)), .int .i64 n, .int .i64 l2, .slice Av fs.length cv] [] _ rfl HN5.out.B rfl rfl Try.underlying53 rfl (by kernel_rfl) ?_) | ((with_reducible refine (implMetaText_c HV.out _ t false _ HK.out HM.out).mono ?_); rintro e w8 ⟨rfl, hb⟩; have HN8 := Aside0.mk (HN5.out.step hb); have HS8 := Aside0.mk (Kd.S_below HSM.out hb); clear hb) | ((with_reducible refine gate_store (t := 53) (p := 2) rfl ?_); refine ev_storepart rfl 53 _ _ rfl rfl (w.heap.size + 1) 0 [.int .i64 0, .int .i64 0, .int .i64 0, .slice none 0 0] [] [.int .i64 0, .int .i64 0, .int .i64 0, .slice none 0 0] [] rfl rfl HN8.out.R rfl rfl rfl (by kernel_rfl) (fun v hv => by simp only [List.mem_cons, List.not_mem_nil, or_false] at hv; rcases hv with rfl | rfl | rfl | rfl <;> rfl) ?_; intro W9 hp hn; have HR9 := Aside0.mk hn; have HP9 := Aside0.mk hp; clear hp hn))
       refine bodyPost_ret (results_list (rs := [.cell 2 53, .tmp 3]) rfl (by simp) (.cell (w.heap.size + 1) 53 _ _ _ rfl HR9.out Try.underlying53 rfl (by kernel_rfl) (.tmp .nil))) rfl ?_
       have hb9 := HP9.out.below w (by omega) HN8.out.bel
       exact ⟨_, rfl, k53_mkM _ _ _ (⟨0, 0, 0, []⟩ : S53) (Kd.S_nil _ _ _ _ _), hb9⟩
      | true =>
       go_wp2_with (first | ((with_reducible refine gate_dst (N := 86) rfl ?_); refine ev_loadpart rfl 53 _ rfl (w.heap.size + 1 + 1) 0 [] [.int .i64 (wrap64 (x.f0 + 1)), .int .i64 n, .int .i64 l2, .slice Av fs.length cv] [] _ rfl HN5.out.B rfl rfl Try.underlying53 rfl (by kernel_rfl) ?_) | ((with_reducible refine (implMetaText_c HV.out _ t true _ HK.out HM.out).mono ?_); rintro e w8 ⟨rfl, hb⟩; have HN8 := Aside0.mk (HN5.out.step hb); have HS8 := Aside0.mk (Kd.S_below HSM.out hb); clear hb) | ((with_reducible refine gate_dst (N := 93) rfl ?_); refine ev_loadpart rfl 53 _ rfl (w.heap.size + 1 + 1) 0 [] [.int .i64 (wrap64 (x.f0 + 1)), .int .i64 n, .int .i64 l2, .slice Av fs.length cv] [] _ rfl HN8.out.B rfl rfl Try.underlying53 rfl (by kernel_rfl) ?_) | ((with_reducible refine gate_store (t := 53) (p := 2) rfl ?_); refine ev_storepart rfl 53 _ _ rfl rfl (w.heap.size + 1) 0 [.int .i64 (wrap64 (x.f0 + 1)), .int .i64 n, .int .i64 l2, .slice Av fs.length cv] [] [.int .i64 0, .int .i64 0, .int .i64 0, .slice none 0 0] [] rfl rfl HN8.out.R rfl rfl rfl (by kernel_rfl) (fun v hv => by simp only [List.mem_cons, List.not_mem_nil, or_false] at hv; rcases hv with rfl | rfl | rfl | rfl <;> rfl) ?_; intro W9 hp hn; have HR9 := Aside0.mk hn; have HP9 := Aside0.mk hp; clear hp hn))
       refine bodyPost_ret (results_list (rs := [.cell 2 53, .tmp 3]) rfl (by simp) (.cell (w.heap.size + 1) 53 _ _ _ rfl HR9.out Try.underlying53 rfl (by kernel_rfl) (.tmp .nil))) rfl ?_
       have hb9 := HP9.out.below w (by omega) HN8.out.bel
       have hS := putS HS8.out HP9.out (fun k h e => by omega)
       exact ⟨_, rfl, k53_mkM _ _ _ (nmM (wrap64 (x.f0 + 1)) n l2 x l3 l4 l5) (Kd.S_mono (Kd.S_bound hS) (fun k hk => ⟨hk.2.1, hk.2.2.1⟩)), hb9⟩
def ImplNM (k : Nat) (d : (S53 × (List ByteArray × List S135 × Int × List Int × List Int × List Int) × Int)) (z : S53) (b : Bool) : Prop := ∃ (vt : Int → ByteArray) (sl : ByteArray → ByteArray) (t : ByteArray), TxF k vt sl ∧ SmallM d.1 ∧ (d.2.1.2.2.2.1.length ≤ 2000000 ∧ d.2.1.2.2.2.2.1.length ≤ 2000000 ∧ d.2.1.2.2.2.2.2.length ≤ 2000000) ∧ MTxt vt sl (nmM (wrap64 (d.1.f0 + 1)) d.2.2 d.2.1.2.2.1 d.1 d.2.1.2.2.2.1 d.2.1.2.2.2.2.1 d.2.1.2.2.2.2.2) t b ∧ z = (if b = true then nmM (wrap64 (d.1.f0 + 1)) d.2.2 d.2.1.2.2.1 d.1 d.2.1.2.2.2.1 d.2.1.2.2.2.2.1 d.2.1.2.2.2.2.2 else ⟨0, 0, 0, []⟩)
theorem implNM_c (k : Nat) (d : (S53 × (List ByteArray × List S135 × Int × List Int × List Int × List Int) × Int)) (z : S53) (b : Bool) {cs : List Value} (w : World) (h : kTxn.K w d cs) (hf : ImplNM k d z b) :
  Calls Try.prog 40 #[.agg cs.toArray] w fun e w' => ∃ ds : List Value, e = .returned (.tuple #[.agg ds.toArray, .bool b]) ∧ k53.M w' w.heap.size (Fr w w') z ds ∧ Below w.heap.size w w' := by
 obtain ⟨x, ⟨l0, l1, l2, l3, l4, l5⟩, n⟩ := d
 obtain ⟨vt, sl, t, T, hx, hl, hm, rfl⟩ := hf
 exact implNM_w T x l0 l1 l2 l3 l4 l5 n t b w h hx hl hm
def SpecNM (k : Nat) (d : (S53 × (List ByteArray × List S135 × Int × List Int × List Int × List Int) × Int)) (z : S53) (b : Bool) : Prop := ∃ (vt : Int → ByteArray) (sl : ByteArray → ByteArray) (tx : Int) (t : ByteArray), TxF k vt sl ∧ SmallM d.1 ∧ (d.2.1.2.2.2.1.length ≤ 2000000 ∧ d.2.1.2.2.2.2.1.length ≤ 2000000 ∧ d.2.1.2.2.2.2.2.length ≤ 2000000) ∧ ((d.1.f0 < 100001 ∧ tx = wrap64 (d.1.f0 + 1)) ∨ (¬ d.1.f0 < 100001 ∧ tx = d.1.f0)) ∧ MTxt vt sl (nmM tx d.2.2 d.2.1.2.2.1 d.1 d.2.1.2.2.2.1 d.2.1.2.2.2.2.1 d.2.1.2.2.2.2.2) t b ∧ z = (if b = true then nmM tx d.2.2 d.2.1.2.2.1 d.1 d.2.1.2.2.2.1 d.2.1.2.2.2.2.1 d.2.1.2.2.2.2.2 else ⟨0, 0, 0, []⟩)
theorem specNM_c (k : Nat) (d : (S53 × (List ByteArray × List S135 × Int × List Int × List Int × List Int) × Int)) (z : S53) (b : Bool) {cs : List Value} (w : World) (h : kTxn.K w d cs) (hf : SpecNM k d z b) :
  Calls Try.prog 38 #[.agg cs.toArray] w fun e w' => ∃ ds : List Value, e = .returned (.tuple #[.agg ds.toArray, .bool b]) ∧ k53.M w' w.heap.size (Fr w w') z ds ∧ Below w.heap.size w w' := by
 obtain ⟨x, ⟨l0, l1, l2, l3, l4, l5⟩, n⟩ := d
 obtain ⟨vt, sl, tx, t, T, hx, hl, htx, hm, rfl⟩ := hf
 exact specNM_w T x l0 l1 l2 l3 l4 l5 n tx htx t b w h hx hl hm
@[reducible] def EqMeta (k : Nat) (z : S53) : Prop := eqMeta_c_f k z z = some true
@[reducible] def HeldMeta (k : Nat) (z : S53) (a r : Int) : Prop := heldMeta_c_f k z a = some r
def MarkMeta (k : Nat) (z : S53) (a : Int) (z' : S53) (r : Int) : Prop := markF.l0 k z.f3 a 0 = some (r, z'.f3) ∧ z' = (⟨z.f0, z.f1, z.f2, z'.f3⟩ : S53)
theorem markMeta_c (k : Nat) (z : S53) (a : Int) (z' : S53) (r : Int) (ok : Nat → Prop) {cs : List Value} (w0 w : World) (hB : Below w0.heap.size w0 w) (hk : ∀ k, ok k → k < w.heap.size) (h : k53.M w w0.heap.size ok z cs) (hf : MarkMeta k z a z' r) :
  Calls Try.prog 44 #[.agg cs.toArray, .int .i64 a] w fun e w' => e = .returned (.int .i64 r) ∧ k53.M w' w0.heap.size ok z' cs ∧ Below w0.heap.size w0 w' ∧ Kept w w' ok := by
 obtain ⟨h1, e⟩ := hf
 rw [e]
 exact markMeta_o k z a r z'.f3 ok w0 w hB hk h h1
def MarkTxn (k : Nat) (z : (S53 × (List ByteArray × List S135 × Int × List Int × List Int × List Int) × Int)) (a : Int) (z' : (S53 × (List ByteArray × List S135 × Int × List Int × List Int × List Int) × Int)) (r : Int) : Prop := ∃ b t1 t2 t3 : Int, markF.l0 k z.1.f3 a 0 = some (b, z'.1.f3) ∧ laws_markDisk.f k z.2.1.1 z.2.1.2.1 b = some (t1, z'.2.1.1, z'.2.1.2.1) ∧ laws_markIntS.f k z.2.1.2.2.2.1 t1 = some (t2, z'.2.1.2.2.2.1) ∧ laws_markIntS.f k z.2.1.2.2.2.2.1 t2 = some (t3, z'.2.1.2.2.2.2.1) ∧ laws_markIntS.f k z.2.1.2.2.2.2.2 t3 = some (r, z'.2.1.2.2.2.2.2) ∧
 z' = ((⟨z.1.f0, z.1.f1, z.1.f2, z'.1.f3⟩ : S53), (z'.2.1.1, z'.2.1.2.1, z.2.1.2.2.1, z'.2.1.2.2.2.1, z'.2.1.2.2.2.2.1, z'.2.1.2.2.2.2.2), z.2.2)
theorem markTxn_c (k : Nat) (z : (S53 × (List ByteArray × List S135 × Int × List Int × List Int × List Int) × Int)) (a : Int) (z' : (S53 × (List ByteArray × List S135 × Int × List Int × List Int × List Int) × Int)) (r : Int) (ok : Nat → Prop) {cs : List Value} (w0 w : World) (hB : Below w0.heap.size w0 w) (hk : ∀ k, ok k → k < w.heap.size) (h : kTxn.M w w0.heap.size ok z cs) (hf : MarkTxn k z a z' r) :
  Calls Try.prog 43 #[.agg cs.toArray, .int .i64 a] w fun e w' => e = .returned (.int .i64 r) ∧ kTxn.M w' w0.heap.size ok z' cs ∧ Below w0.heap.size w0 w' ∧ Kept w w' ok := by
 obtain ⟨b, t1, t2, t3, f1, g1, g2, g3, g4, e⟩ := hf
 rw [e]
 obtain ⟨x, ⟨l0, l1, l2, l3, l4, l5⟩, n⟩ := z
 exact markTxn_o k x l0 l1 l2 l3 l4 l5 n a b t1 t2 t3 r _ _ _ _ _ _ ok w0 w hB hk h f1 g1 g2 g3 g4
theorem nm_small0 (k : Nat) (a0 : (S69 × (List ByteArray × List S140 × Int × List Int × List Int × List Int) × Int)) (r0 : Int) {cs0 : List Value} (w : World) (h0 : kTxnL.K w a0 cs0) (hs0 : szTxn_c_f k a0 1048576 = some r0) (hr0 : r0 < 0) :
  Calls Try.prog 8 #[.agg cs0.toArray] w fun e w' => e = .returned (.bool true) ∧ Below w.heap.size w w' := by
 have KA0 := Aside0.mk h0; have LA0 := Aside0.mk (show cs0.length = 11 from Kd.K_len _ h0); clear h0
 have HS0 := Aside0.mk hs0; clear hs0
 replace hr0 : decide (r0 < 0) = true := decide_eq_true hr0
 have O := Aside0.mk (Nat.le_refl w.heap.size)
 have E := Aside0.mk (Env.start w)
 go_enter Try.func8, Try.ntmps8
 go_wp2_with (first | ((with_reducible refine gate_dst (N := 14) rfl ?_); replace O := Aside0.mk (And.intro E.out.le O.out); replace E := Aside0.mk (E.out.alloc cs0 72 (g := w.heap.size) rfl); refine ev_loadpart rfl 72 _ rfl w.heap.size 0 [] cs0 [] _ rfl (E.out.box 0 rfl) (by first | rfl | (simp only [aA, aN, aL]; first | done | rfl)) (rfl) Try.underlying72 rfl (by rw [LA0.out]; kernel_rfl) ?_))
 ((with_reducible refine (szTxn_c k a0 1048576 r0 _ (E.out.K KA0.out) HS0.out).mono ?_); rintro e w1_ ⟨rfl, hb⟩)
 replace E := Aside0.mk (E.out.call hb); clear hb
 go_wp2_with fail
 go_ret
 exact ⟨rfl, E.out.below⟩
def nm_great_T10 : Bool × List (List Nat × List Nat) := (true, [([], []), ([], []), ([1], [1]), ([0, 2, 2], [0, 2]), ([3], [3])])
def nm_great_B10 : List Nat := [0, 0, 2, 7, 15]
theorem nm_great_ok10_0 : regT (opsOf Try.f8 10) nm_great_T10 nm_great_B10 [] (.t 0 (.t 1 (.e 2 (.e 3 (.p 4 .d))))) = true := by kernel_rfl
theorem nm_great (k : Nat) (a0 : (S69 × (List ByteArray × List S140 × Int × List Int × List Int × List Int) × Int)) (r0 : Int) (d0 d0_ : (S53 × (List ByteArray × List S135 × Int × List Int × List Int × List Int) × Int)) (z0 z0_ : S53) (z1 : Bool) (mk0 : Int) (mg0 : Int) {cs0 : List Value} (w : World) (h0 : kTxnL.K w a0 cs0) (hs0 : szTxn_c_f k a0 1048576 = some r0) (ht0 : ToTxn k a0 d0) (hsp : SpecNM k d0  z0 z1) (him : ImplNM k d0  z0 z1) (heq0 : EqMeta k z0) (hex0 : EqTxn k d0) (hmk0 : MarkTxn k d0 1 d0_ mk0) (hmg0 : MarkMeta k z0 1 z0_ mg0) (hhd0 : HeldMeta k z0_ 1 mg0) (hr0 : ¬ r0 < 0) (hm : ¬ mk0 < 0) (hg0 : ¬ mg0 < 0) :
  Calls Try.prog 8 #[.agg cs0.toArray] w fun e w' => e = .returned (.bool true) ∧ Below w.heap.size w w' := by
 have KA0 := Aside0.mk h0; have LA0 := Aside0.mk (show cs0.length = 11 from Kd.K_len _ h0); clear h0
 have HS0 := Aside0.mk hs0; clear hs0
 have HT0 := Aside0.mk ht0; clear ht0
 have HSP := Aside0.mk hsp; clear hsp
 have HIM := Aside0.mk him; clear him
 have HEQ0 := Aside0.mk heq0; clear heq0
 have HEX0 := Aside0.mk hex0; clear hex0
 have HMK0 := Aside0.mk hmk0; clear hmk0
 have HMG0 := Aside0.mk hmg0; clear hmg0
 have HHD0 := Aside0.mk hhd0; clear hhd0
 replace hr0 : decide (r0 < 0) = false := decide_eq_false hr0
 replace hm : decide (mk0 < 0) = false := decide_eq_false hm
 replace hg0 : decide (mg0 < 0) = false := decide_eq_false hg0
 have O := Aside0.mk (Nat.le_refl w.heap.size)
 have E := Aside0.mk (Env.start w)
 go_enter Try.func8, Try.ntmps8
 go_wp2_with (first | ((with_reducible refine gate_dst (N := 14) rfl ?_); replace O := Aside0.mk (And.intro E.out.le O.out); replace E := Aside0.mk (E.out.alloc cs0 72 (g := w.heap.size) rfl); refine ev_loadpart rfl 72 _ rfl w.heap.size 0 [] cs0 [] _ rfl (E.out.box 0 rfl) (by first | rfl | (simp only [aA, aN, aL]; first | done | rfl)) (rfl) Try.underlying72 rfl (by rw [LA0.out]; kernel_rfl) ?_))
 ((with_reducible refine (szTxn_c k a0 1048576 r0 _ (E.out.K KA0.out) HS0.out).mono ?_); rintro e w1_ ⟨rfl, hb⟩)
 replace E := Aside0.mk (E.out.call hb); clear hb
 go_wp2_with (first | ((with_reducible refine gate_dst (N := 20) rfl ?_); refine ev_loadpart rfl 72 _ rfl w.heap.size 0 [] cs0 [] _ rfl (E.out.box 0 rfl) (by first | rfl | (simp only [aA, aN, aL]; first | done | rfl)) (rfl) Try.underlying72 rfl (by rw [LA0.out]; kernel_rfl) ?_))
 ((with_reducible refine (toTxn_c k a0 d0 _ (E.out.K KA0.out) HT0.out).mono ?_); rintro e w2_ ⟨d3_, rfl, Md3_, hb⟩)
 have q := E.out.made4 O.out 11 rfl Md3_ hb; clear O E Md3_ hb; obtain ⟨n4_, m5_, Ld3_, Od3_, O, E⟩ := q
 go_wp2_with fail
 ((with_reducible refine (specNM_c k d0  z0 z1 _ (E.out.mk_ 0 rfl) HSP.out).mono ?_); rintro e w6_ ⟨d7_, rfl, Md7_, hb⟩)
 have q := E.out.made4 O.out 4 rfl Md7_ hb; clear O E Md7_ hb; obtain ⟨n8_, m9_, Ld7_, Od7_, O, E⟩ := q
 go_wp2_with (first | ((with_reducible refine gate_store (t := 53) (p := 4) rfl ?_); replace O := Aside0.mk (And.intro E.out.le O.out); replace E := Aside0.mk (E.out.alloc Z53 53 (g := w6_.heap.size) rfl); refine ev_storepart rfl 53 _ _ rfl rfl w6_.heap.size 0 d7_ [] Z53 [] rfl rfl (E.out.box 0 rfl) (by first | rfl | (simp only [aA, aN, aL]; first | done | rfl)) (rfl) (by rw [Ld7_.out]; rfl) (by rw [Ld7_.out]; kernel_rfl) Od7_.out ?_; intro W10_ hp hn; replace E := E.out.put2 0 hp hn (by have o := O.out; dsimp only [Off, OffA, Fct.box, Fct.made, List.set]; and_intros <;> first | trivial | omega); clear hp hn) | ((with_reducible refine gate_dst (N := 25) rfl ?_); refine ev_loadpart rfl 72 _ rfl w.heap.size 0 [] cs0 [] _ rfl (E.out.box 3 rfl) (by first | rfl | (simp only [aA, aN, aL]; first | done | rfl)) (rfl) Try.underlying72 rfl (by rw [LA0.out]; kernel_rfl) ?_))
 ((with_reducible refine (toTxn_c k a0 d0 _ (E.out.K KA0.out) HT0.out).mono ?_); rintro e w11_ ⟨d12_, rfl, Md12_, hb⟩)
 have q := E.out.made4 O.out 11 rfl Md12_ hb; clear O E Md12_ hb; obtain ⟨n13_, m14_, Ld12_, Od12_, O, E⟩ := q
 go_wp2_with (first | ((with_reducible refine gate_store (t := 56) (p := 6) rfl ?_); replace O := Aside0.mk (And.intro E.out.le O.out); replace E := Aside0.mk (E.out.alloc Z56 56 (g := w11_.heap.size) rfl); refine ev_storepart rfl 56 _ _ rfl rfl w11_.heap.size 0 d12_ [] Z56 [] rfl rfl (E.out.box 0 rfl) (by first | rfl | (simp only [aA, aN, aL]; first | done | rfl)) (rfl) (by rw [Ld12_.out]; rfl) (by rw [Ld12_.out]; kernel_rfl) Od12_.out ?_; intro W15_ hp hn; replace E := E.out.put2 0 hp hn (by have o := O.out; dsimp only [Off, OffA, Fct.box, Fct.made, List.set]; and_intros <;> first | trivial | omega); clear hp hn) | ((with_reducible refine gate_dst (N := 28) rfl ?_); refine ev_loadpart rfl 56 _ rfl w11_.heap.size 0 [] d12_ [] _ rfl (E.out.box 0 rfl) (by first | rfl | (simp only [aA, aN, aL]; first | done | rfl)) (rfl) Try.underlying56 rfl (by rw [Ld12_.out]; kernel_rfl) ?_))
 ((with_reducible refine (implNM_c k d0  z0 z1 _ (E.out.mk_ 1 rfl) HIM.out).mono ?_); rintro e w16_ ⟨d17_, rfl, Md17_, hb⟩)
 have q := E.out.made4 O.out 4 rfl Md17_ hb; clear O E Md17_ hb; obtain ⟨n18_, m19_, Ld17_, Od17_, O, E⟩ := q
 go_wp2_with (first | ((with_reducible refine gate_store (t := 53) (p := 7) rfl ?_); replace O := Aside0.mk (And.intro E.out.le O.out); replace E := Aside0.mk (E.out.alloc Z53 53 (g := w16_.heap.size) rfl); refine ev_storepart rfl 53 _ _ rfl rfl w16_.heap.size 0 d17_ [] Z53 [] rfl rfl (E.out.box 0 rfl) (by first | rfl | (simp only [aA, aN, aL]; first | done | rfl)) (rfl) (by rw [Ld17_.out]; rfl) (by rw [Ld17_.out]; kernel_rfl) Od17_.out ?_; intro W20_ hp hn; replace E := E.out.put2 0 hp hn (by have o := O.out; dsimp only [Off, OffA, Fct.box, Fct.made, List.set]; and_intros <;> first | trivial | omega); clear hp hn) | ((with_reducible refine gate_dst (N := 32) rfl ?_); refine ev_loadpart rfl 53 _ rfl w16_.heap.size 0 [] d17_ [] _ rfl (E.out.box 0 rfl) (by first | rfl | (simp only [aA, aN, aL]; first | done | rfl)) (rfl) Try.underlying53 rfl (by rw [Ld17_.out]; kernel_rfl) ?_) | ((with_reducible refine gate_dst (N := 33) rfl ?_); refine ev_loadpart rfl 53 _ rfl w6_.heap.size 0 [] d7_ [] _ rfl (E.out.box 4 rfl) (by first | rfl | (simp only [aA, aN, aL]; first | done | rfl)) (rfl) Try.underlying53 rfl (by rw [Ld7_.out]; kernel_rfl) ?_))
 ((with_reducible refine (eqMeta_c k z0 z0 true _ (E.out.mk_ 1 rfl) (E.out.mk_ 5 rfl) HEQ0.out).mono ?_); rintro e w21_ ⟨rfl, hb⟩)
 replace E := Aside0.mk (E.out.call hb); clear hb
 go_upto_region 10 with (fail)
 replace E := Aside0.mk E.out.drew
 refine tre_start nm_great_ok10_0 (S := fun w' => w'.heap[w11_.heap.size]? = some (.cells (([] ++ (d12_ ++ [])) : List Value).toArray 56 (0, 0)) ∧ w'.heap[w.heap.size]? = some (.cells (cs0 : List Value).toArray 72 (0, 0)) ∧ True) (by kernel_rfl) (fun _ _ _ _ h => h) ⟨(E.out.box 2 rfl), (E.out.box 7 rfl), trivial⟩ (fun hHeld => ?_)
 generalize hq : World.drew _ = w22_ at hHeld ⊢; replace E := E.out.to hq; clear hq
 refine tre_loadpart (a' := ?ax23_) rfl rfl (by rfl) 56 _ rfl w11_.heap.size 0 [] d12_ [] _ rfl (fun w' hs => hs.1) (by first | rfl | (simp only [aA, aN, aL]; first | done | rfl)) (rfl) Try.underlying56 rfl (by rw [Ld12_.out]; kernel_rfl) ?px23_ ?kx23_
 case px23_ => (show Act.put _ (some _) _ = _; simp only [Act.put, s_A, s_0, s_1, i64_w]; try rfl)
 refine tre_loadpart (a' := ?ax24_) rfl rfl (by rfl) 72 _ rfl w.heap.size 0 [] cs0 [] _ rfl (fun w' hs => hs.2.1) (by first | rfl | (simp only [aA, aN, aL]; first | done | rfl)) (rfl) Try.underlying72 rfl (by rw [LA0.out]; kernel_rfl) ?px24_ ?kx24_
 case px24_ => (show Act.put _ (some _) _ = _; simp only [Act.put, s_A, s_0, s_1, i64_w]; try rfl)
 refine tre_e rfl (ev1_call rfl Try.func39 (by kernel_rfl) rfl #[.agg cs0.toArray] (by rfl) rfl (by (try simp only [List.map_toArray, List.map_cons, List.map_nil]); first | done | rfl) ?_)
 with_reducible refine (toTxn_c k a0 d0 _ (E.out.K KA0.out) HT0.out).mono ?_
 rintro e w25_ ⟨d26_, rfl, Md26_, hb⟩
 have q := E.out.made4 O.out 11 rfl Md26_ hb; clear O E Md26_ hb; obtain ⟨n27_, m28_, Ld26_, Od26_, O, E⟩ := q
 refine ⟨_, rfl, ⟨(E.out.box 3 rfl), (E.out.box 8 rfl), trivial⟩, (fun hHeld => ?_)⟩
 refine tre_norm (a' := ?_) ?_ ?_; rotate_left; (· show Act.put _ (some 43) _ = _; simp only [Act.put, s_A, s_0, s_1, i64_w]; try rfl)
 refine tre_e rfl (ev1_call rfl Try.func42 (by kernel_rfl) rfl #[.agg d12_.toArray, .agg d26_.toArray] (by rfl) rfl (by (try simp only [List.map_toArray, List.map_cons, List.map_nil]); first | done | rfl) ?_)
 with_reducible refine (eqTxn_c k d0 _ (E.out.mk_ 4 rfl) (E.out.mk_ 0 rfl) HEX0.out).mono ?_
 rintro e w29_ ⟨rfl, hb⟩
 replace E := Aside0.mk (E.out.call hb); clear hb
 refine ⟨_, rfl, ⟨(E.out.box 3 rfl), (E.out.box 8 rfl), trivial⟩, (fun hHeld => ?_)⟩
 refine tre_norm (a' := ?_) ?_ ?_; rotate_left; (· show Act.put _ (some 44) _ = _; simp only [Act.put, s_A, s_0, s_1, i64_w]; try rfl)
 (refine tre_p (v := ?_) (a' := ?_) rfl rfl (Or.inl ⟨by rfl, ?_⟩) ?_ ?_; rotate_left; (· intro w'; go_simp; with_reducible rfl); rotate_left; (· show Act.put _ (some _) _ = _; simp only [Act.put, s_A, s_0, s_1, i64_w]; try rfl))
 refine tre_done ?_
 clear hHeld
 go_wp2_with (first | ((with_reducible refine gate_dst (N := 46) rfl ?_); refine ev_loadpart rfl 56 _ rfl w11_.heap.size 0 [] d12_ [] _ rfl (E.out.box 3 rfl) (by first | rfl | (simp only [aA, aN, aL]; first | done | rfl)) (rfl) Try.underlying56 rfl (by rw [Ld12_.out]; kernel_rfl) ?_))
 ((with_reducible refine (markTxn_c k d0 1 d0_ mk0 _ w _ E.out.below (E.out.mbound 4 rfl) (E.out.made 4 rfl) HMK0.out).mono ?_); rintro e w30_ ⟨rfl, M, hB, hK⟩)
 replace E := Aside0.mk (E.out.marked 4 rfl M hB hK (by have o := O.out; simp only [Off2, Off2.Off2A, List.set_cons_zero, List.set_cons_succ, Fct.box, Fct.made]; and_intros <;> first | trivial | omega)); clear M hB hK
 go_wp2_with (first | ((with_reducible refine gate_dst (N := 52) rfl ?_); refine ev_loadpart_w (by rfl) 53 _ rfl w16_.heap.size 0 [] d17_ [] _ rfl (E.out.box 1 rfl) (by first | rfl | (simp only [aA, aN, aL]; first | done | rfl)) (rfl) Try.underlying53 rfl (by rw [Ld17_.out]; kernel_rfl) ?_) | ((with_reducible refine gate_dst (N := 53) rfl ?_); refine ev_loadpart_w (by rfl) 53 _ rfl w6_.heap.size 0 [] d7_ [] _ rfl (E.out.box 5 rfl) (by first | rfl | (simp only [aA, aN, aL]; first | done | rfl)) (rfl) Try.underlying53 rfl (by rw [Ld7_.out]; kernel_rfl) ?_))
 ((with_reducible refine (eqMeta_c k z0 z0 true _ (E.out.mk_ 2 rfl) (E.out.mk_ 6 rfl) HEQ0.out).mono ?_); rintro e w31_ ⟨rfl, hb⟩)
 replace E := Aside0.mk (E.out.call hb); clear hb
 go_wp2_with (first | ((with_reducible refine gate_dst (N := 62) rfl ?_); refine ev_loadpart rfl 53 _ rfl w16_.heap.size 0 [] d17_ [] _ rfl (E.out.box 1 rfl) (by first | rfl | (simp only [aA, aN, aL]; first | done | rfl)) (rfl) Try.underlying53 rfl (by rw [Ld17_.out]; kernel_rfl) ?_))
 ((with_reducible refine (markMeta_c k z0 1 z0_ mg0 _ w _ E.out.below (E.out.mbound 2 rfl) (E.out.made 2 rfl) HMG0.out).mono ?_); rintro e w32_ ⟨rfl, M, hB, hK⟩)
 replace E := Aside0.mk (E.out.marked 2 rfl M hB hK (by have o := O.out; simp only [Off2, Off2.Off2A, List.set_cons_zero, List.set_cons_succ, Fct.box, Fct.made]; and_intros <;> first | trivial | omega)); clear M hB hK
 go_wp2_with (first | ((with_reducible refine gate_dst (N := 65) rfl ?_); refine ev_loadpart rfl 53 _ rfl w16_.heap.size 0 [] d17_ [] _ rfl (E.out.box 1 rfl) (by first | rfl | (simp only [aA, aN, aL]; first | done | rfl)) (rfl) Try.underlying53 rfl (by rw [Ld17_.out]; kernel_rfl) ?_))
 ((with_reducible refine (heldMeta_c k z0_ 1 mg0 _ (E.out.mk_ 2 rfl) HHD0.out).mono ?_); rintro e w33_ ⟨rfl, hb⟩)
 replace E := Aside0.mk (E.out.call hb); clear hb
 go_wp2_with (first | ((with_reducible refine gate_dst (N := 74) rfl ?_); refine ev_loadpart rfl 72 _ rfl w.heap.size 0 [] cs0 [] _ rfl (E.out.box 8 rfl) (by first | rfl | (simp only [aA, aN, aL]; first | done | rfl)) (rfl) Try.underlying72 rfl (by rw [LA0.out]; kernel_rfl) ?_))
 ((with_reducible refine (toTxn_c k a0 d0 _ (E.out.K KA0.out) HT0.out).mono ?_); rintro e w34_ ⟨d35_, rfl, Md35_, hb⟩)
 have q := E.out.made4 O.out 11 rfl Md35_ hb; clear O E Md35_ hb; obtain ⟨n36_, m37_, Ld35_, Od35_, O, E⟩ := q
 go_wp2_with fail
 ((with_reducible refine (implNM_c k d0  z0 z1 _ (E.out.mk_ 0 rfl) HIM.out).mono ?_); rintro e w38_ ⟨d39_, rfl, Md39_, hb⟩)
 have q := E.out.made4 O.out 4 rfl Md39_ hb; clear O E Md39_ hb; obtain ⟨n40_, m41_, Ld39_, Od39_, O, E⟩ := q
 go_wp2_with (first | ((with_reducible refine gate_store (t := 53) (p := 12) rfl ?_); replace O := Aside0.mk (And.intro E.out.le O.out); replace E := Aside0.mk (E.out.alloc Z53 53 (g := w38_.heap.size) rfl); refine ev_storepart rfl 53 _ _ rfl rfl w38_.heap.size 0 d39_ [] Z53 [] rfl rfl (E.out.box 0 rfl) (by first | rfl | (simp only [aA, aN, aL]; first | done | rfl)) (rfl) (by rw [Ld39_.out]; rfl) (by rw [Ld39_.out]; kernel_rfl) Od39_.out ?_; intro W42_ hp hn; replace E := E.out.put2 0 hp hn (by have o := O.out; dsimp only [Off, OffA, Fct.box, Fct.made, List.set]; and_intros <;> first | trivial | omega); clear hp hn) | ((with_reducible refine gate_dst (N := 79) rfl ?_); refine ev_loadpart rfl 53 _ rfl w38_.heap.size 0 [] d39_ [] _ rfl (E.out.box 0 rfl) (by first | rfl | (simp only [aA, aN, aL]; first | done | rfl)) (rfl) Try.underlying53 rfl (by rw [Ld39_.out]; kernel_rfl) ?_) | ((with_reducible refine gate_dst (N := 80) rfl ?_); refine ev_loadpart rfl 53 _ rfl w6_.heap.size 0 [] d7_ [] _ rfl (E.out.box 8 rfl) (by first | rfl | (simp only [aA, aN, aL]; first | done | rfl)) (rfl) Try.underlying53 rfl (by rw [Ld7_.out]; kernel_rfl) ?_))
 ((with_reducible refine (eqMeta_c k z0 z0 true _ (E.out.mk_ 1 rfl) (E.out.mk_ 9 rfl) HEQ0.out).mono ?_); rintro e w43_ ⟨rfl, hb⟩)
 replace E := Aside0.mk (E.out.call hb); clear hb
 go_wp2_with (first | ((with_reducible refine gate_dst (N := 88) rfl ?_); refine ev_loadpart rfl 53 _ rfl w16_.heap.size 0 [] d17_ [] _ rfl (E.out.box 4 rfl) (by first | rfl | (simp only [aA, aN, aL]; first | done | rfl)) (rfl) Try.underlying53 rfl (by rw [Ld17_.out]; kernel_rfl) ?_))
 ((with_reducible refine (heldMeta_c k z0_ 1 mg0 _ (E.out.mk_ 5 rfl) HHD0.out).mono ?_); rintro e w44_ ⟨rfl, hb⟩)
 replace E := Aside0.mk (E.out.call hb); clear hb
 go_wp2_with fail
 go_ret
 exact ⟨rfl, E.out.below⟩
def INtr (x : (S69 × (List ByteArray × List S140 × Int × List Int × List Int × List Int) × Int)) : Prop := x.1.f0 ≤ 9223372036854775807 ∧ INm x.1.f3 ∧ INd x.2.1.1 x.2.1.2.1 ∧ INi x.2.1.2.2.2.1 ∧ INi x.2.1.2.2.2.2.1 ∧ INi x.2.1.2.2.2.2.2
def OKtl (a : (S69 × (List ByteArray × List S140 × Int × List Int × List Int × List Int) × Int)) : Prop := a.1.f0 ≤ 9223372036854775807 ∧ OKm a.1.f3 ∧ Small a.2.1.1 a.2.1.2.1 ∧ a.2.1.2.2.2.1.length ≤ 1048576 ∧ a.2.1.2.2.2.2.1.length ≤ 1048576 ∧ a.2.1.2.2.2.2.2.length ≤ 1048576
def OKt (d : (S53 × (List ByteArray × List S135 × Int × List Int × List Int × List Int) × Int)) : Prop := d.1.f0 ≤ 9223372036854775807 ∧ OKn d.1.f3 ∧ (d.2.1.1.length ≤ 1048576 ∧ d.2.1.2.1.length ≤ 1048576) ∧ d.2.1.2.2.2.1.length ≤ 1048576 ∧ d.2.1.2.2.2.2.1.length ≤ 1048576 ∧ d.2.1.2.2.2.2.2.length ≤ 1048576
def convT (a : (S69 × (List ByteArray × List S140 × Int × List Int × List Int × List Int) × Int)) : (S53 × (List ByteArray × List S135 × Int × List Int × List Int × List Int) × Int) := (convM a.1, (a.2.1.1, a.2.1.2.1.map conv, a.2.1.2.2.1, a.2.1.2.2.2.1, a.2.1.2.2.2.2.1, a.2.1.2.2.2.2.2), a.2.2)
theorem sz_txn (a : (S69 × (List ByteArray × List S140 × Int × List Int × List Int × List Int) × Int)) (h : INtr a) : ∃ r, Ev (fun k => szTxn_c_f k a 1048576) r ∧ (r < 0 ∨ (¬ r < 0 ∧ OKtl a)) := by
 obtain ⟨y, ⟨l0, l1, l2, l3, l4, l5⟩, n⟩ := a
 obtain ⟨h0, h4, h5, h6, h7, h8⟩ := h
 obtain ⟨r, e, h⟩ := szTx y.f0 y.f1 y.f2 y.f3 l0 l1 l2 l3 l4 l5 n h4 h5 h6 h7 h8 1048576 (by omega) (by omega)
 refine ⟨r, e, ?_⟩
 rcases h with h | ⟨g0, _, g⟩
 ·exact .inl h
 ·exact .inr ⟨by omega, h0, g⟩
theorem to_txn (a : (S69 × (List ByteArray × List S140 × Int × List Int × List Int × List Int) × Int)) (h : OKtl a) : EvP (fun k => ToTxn k a (convT a)) ∧ OKt (convT a) := by
 obtain ⟨h0, h4, h5, h6, h7, h8⟩ := h
 have hW : EvP (fun k => ToWork k a.2.1 (convT a).2.1) := ((EvP.of (toD_ev _ _ h5)).and ((EvP.now rfl).and ((EvP.of (toI_ev _ h6)).and ((EvP.of (toI_ev _ h7)).and (EvP.of (toI_ev _ h8)))))).imp (fun k h => h)
 refine ⟨((EvP.of (toM_ev _ _ _ _ h4.1 h4.2)).and (hW.and (EvP.now rfl))).imp (fun k h => h), ?_⟩
 exact ⟨h0, OKn_conv h4, ⟨h5.1.1, by show (a.2.1.2.1.map conv).length ≤ _; rw [List.length_map]; exact h5.2.1⟩, h6, h7, h8⟩
theorem eq_meta (x : S53) (h : OKn x.f3) : EvP (fun k => EqMeta k x) := EvP.of (eqM_ev x.f0 x.f1 x.f2 x.f3 h.1 h.2)
theorem eq_txn (d : (S53 × (List ByteArray × List S135 × Int × List Int × List Int × List Int) × Int)) (h : OKt d) : EvP (fun k => EqTxn k d) := by
 obtain ⟨y, ⟨l0, l1, l2, l3, l4, l5⟩, n⟩ := d
 obtain ⟨h0, h4, h5, h6, h7, h8⟩ := h
 have g := fun {n : Nat} (h : n ≤ 1048576) => Nat.le_trans h (show 1048576 ≤ 2000000 by decide)
 exact ((EvP.of (eqM_ev y.f0 y.f1 y.f2 y.f3 h4.1 h4.2)).and ((EvP.of (eqD_ev l0 l1 (g h5.1) (g h5.2))).and ((EvP.of (eqI_ev l3 (g h6))).and ((EvP.of (eqI_ev l4 (g h7))).and (EvP.of (eqI_ev l5 (g h8))))))).imp (fun k h => h)
theorem mark_meta (x : S53) (h : OKn x.f3) : ∃ z mg, EvP (fun k => MarkMeta k x 1 z mg) ∧ ¬ mg < 0 ∧ EvP (fun k => HeldMeta k z 1 mg) := by
 have b2 : x.f3.length ≤ 1048576 := h.1
 obtain ⟨fr, c2, c20, c21, m2, d2⟩ := mhF_ev x.f3 1 (by omega) (by omega) h
 refine ⟨⟨x.f0, x.f1, x.f2, fr⟩, 1 + c2, (EvP.of m2).imp (fun k h => ⟨h, rfl⟩), by omega, ?_⟩
 have hm : Ev (fun k => heldMeta_c_f k ⟨x.f0, x.f1, x.f2, fr⟩ 1) (1 + c2) := by
  show Ev (fun k => laws_heldMeta.f k x.f0 x.f1 x.f2 fr 1) (1 + c2)
  unfold laws_heldMeta.f
  exact hld d2 (by omega) (Ev.now _)
 exact EvP.of hm
theorem mark_txn (d : (S53 × (List ByteArray × List S135 × Int × List Int × List Int × List Int) × Int)) (h : OKt d) : ∃ d' mk, EvP (fun k => MarkTxn k d 1 d' mk) ∧ ¬ mk < 0 := by
 obtain ⟨y, ⟨l0, l1, l2, l3, l4, l5⟩, n⟩ := d
 obtain ⟨h0, h4, h5, h6, h7, h8⟩ := h
 have b4 : y.f3.length ≤ 1048576 := h4.1
 have b5 : l0.length ≤ 1048576 := h5.1
 have b6 : l1.length ≤ 1048576 := h5.2
 have b7 : l3.length ≤ 1048576 := h6
 have b8 : l4.length ≤ 1048576 := h7
 have b9 : l5.length ≤ 1048576 := h8
 obtain ⟨gr, c4, c40, c41, m4, d4⟩ := mhF_ev y.f3 1 (by omega) (by omega) h4
 obtain ⟨u4, hu4⟩ : ∃ u : Int, u = 1 + c4 := ⟨_, rfl⟩
 rw [← hu4] at m4 d4
 obtain ⟨p', q', m5, d5⟩ := mhD_ev l0 l1 u4 (by omega) (by omega) (by omega) (by omega)
 obtain ⟨u5, hu5⟩ : ∃ u : Int, u = u4 + l0.length + 2 * l1.length := ⟨_, rfl⟩
 rw [← hu5] at m5 d5
 obtain ⟨s3, m6, d6⟩ := mhI_ev l3 u5 (by omega) (by omega) (by omega)
 obtain ⟨u6, hu6⟩ : ∃ u : Int, u = u5 + l3.length := ⟨_, rfl⟩
 rw [← hu6] at m6 d6
 obtain ⟨s4, m7, d7⟩ := mhI_ev l4 u6 (by omega) (by omega) (by omega)
 obtain ⟨u7, hu7⟩ : ∃ u : Int, u = u6 + l4.length := ⟨_, rfl⟩
 rw [← hu7] at m7 d7
 obtain ⟨s5, m8, d8⟩ := mhI_ev l5 u7 (by omega) (by omega) (by omega)
 obtain ⟨u8, hu8⟩ : ∃ u : Int, u = u7 + l5.length := ⟨_, rfl⟩
 rw [← hu8] at m8 d8
 refine ⟨(⟨y.f0, y.f1, y.f2, gr⟩, (p', q', l2, s3, s4, s5), n), u8, ?_, by omega⟩
 refine ((EvP.of m4).and ((EvP.of m5).and ((EvP.of m6).and ((EvP.of m7).and (EvP.of m8))))).imp ?_
 rintro k ⟨f4, f5, f6, f7, f8⟩
 exact ⟨u4, u5, u6, u7, f4, f5, f6, f7, f8, rfl⟩
theorem mt_ex_ (vt : Int → ByteArray) (sl : ByteArray → ByteArray) (x : S53) : ∃ t b, MTxt vt sl x t b ∧ (b = true → MOk x) := by
 by_cases h : MOk x
 ·by_cases g : 240 < (mbody vt x ++ sl (mbody vt x)).size
  ·exact ⟨_, _, .inr (.inl ⟨h, g, rfl, rfl⟩), fun h => by cases h⟩
  ·exact ⟨_, _, .inr (.inr ⟨h, by omega, rfl, rfl⟩), fun _ => h⟩
 ·exact ⟨_, _, .inl ⟨h, rfl, rfl⟩, fun h => by cases h⟩
theorem MOk.okn {x : S53} (h : MOk x) : OKn x.f3 := by
 have := h.len
 exact ⟨by omega, fun s hs => by have := h.le40 s hs; omega⟩
theorem nm_ev (d : (S53 × (List ByteArray × List S135 × Int × List Int × List Int × List Int) × Int)) (h : OKt d) : ∃ z b, EvP (fun k => SpecNM k d z b) ∧ EvP (fun k => ImplNM k d z b) ∧ OKn z.f3 := by
 have h0 := h.1
 have hx : SmallM d.1 := ⟨Nat.le_trans h.2.1.1 (by decide), fun f hf => Nat.le_trans (h.2.1.2 f hf) (by decide)⟩
 have hl : d.2.1.2.2.2.1.length ≤ 2000000 ∧ d.2.1.2.2.2.2.1.length ≤ 2000000 ∧ d.2.1.2.2.2.2.2.length ≤ 2000000 := ⟨Nat.le_trans h.2.2.2.1 (by decide), Nat.le_trans h.2.2.2.2.1 (by decide), Nat.le_trans h.2.2.2.2.2 (by decide)⟩
 by_cases hc : d.1.f0 < 100001
 ·obtain ⟨t, b, hm, hb⟩ := mt_ex_ vtN sealN (nmM (wrap64 (d.1.f0 + 1)) d.2.2 d.2.1.2.2.1 d.1 d.2.1.2.2.2.1 d.2.1.2.2.2.2.1 d.2.1.2.2.2.2.2)
  refine ⟨_, b, txF.imp (fun k T => ⟨vtN, sealN, _, t, T, hx, hl, .inl ⟨hc, rfl⟩, hm, rfl⟩), txF.imp (fun k T => ⟨vtN, sealN, t, T, hx, hl, hm, rfl⟩), ?_⟩
  cases b with
  | false => exact ⟨Nat.zero_le _, fun s hs => by cases hs⟩
  | true => exact (hb rfl).okn
 ·have n1 : ¬ MOk (nmM d.1.f0 d.2.2 d.2.1.2.2.1 d.1 d.2.1.2.2.2.1 d.2.1.2.2.2.2.1 d.2.1.2.2.2.2.2) := fun g => by
   have g0 : d.1.f0 ≤ 100000 := g.f0.2
   omega
  have n2 : ¬ MOk (nmM (wrap64 (d.1.f0 + 1)) d.2.2 d.2.1.2.2.1 d.1 d.2.1.2.2.2.1 d.2.1.2.2.2.2.1 d.2.1.2.2.2.2.2) := fun g => by
   have g0 : 0 ≤ wrap64 (d.1.f0 + 1) ∧ wrap64 (d.1.f0 + 1) ≤ 100000 := g.f0
   unfold wrap64 at g0
   omega
  refine ⟨⟨0, 0, 0, []⟩, false, txF.imp (fun k T => ⟨vtN, sealN, _, _, T, hx, hl, .inr ⟨hc, rfl⟩, .inl ⟨n1, rfl, rfl⟩, rfl⟩), txF.imp (fun k T => ⟨vtN, sealN, _, T, hx, hl, .inl ⟨n2, rfl, rfl⟩, rfl⟩), ⟨Nat.zero_le _, fun s hs => by cases hs⟩⟩
theorem nm_law (a : (S69 × (List ByteArray × List S140 × Int × List Int × List Int × List Int) × Int)) (ha : INtr a) {cs : List Value} (w : World) (h : kTxnL.K w a cs) :
  Calls Try.prog 8 #[.agg cs.toArray] w fun e w' => e = .returned (.bool true) ∧ Below w.heap.size w w' := by
 obtain ⟨r, ⟨K0, er⟩, hr⟩ := sz_txn a ha
 rcases hr with hr | ⟨hr, ho⟩
 ·exact nm_small0 K0 a r w h (er K0 (Nat.le_refl _)) hr
 ·obtain ⟨hto, hd⟩ := to_txn a ho
  obtain ⟨z, b, hsp, him, hz⟩ := nm_ev (convT a) hd
  obtain ⟨d', mk, hmk, mk0⟩ := mark_txn (convT a) hd
  obtain ⟨z', mg, hmg, mg0, hhd⟩ := mark_meta z hz
  obtain ⟨K, hK⟩ := (EvP.of ⟨K0, er⟩).and (hto.and (hsp.and (him.and ((eq_meta z hz).and ((eq_txn (convT a) hd).and (hmk.and (hmg.and hhd)))))))
  obtain ⟨f1, f2, f3, f4, f5, f6, f7, f8, f9⟩ := hK K (Nat.le_refl _)
  exact nm_great K a r (convT a) d' z z' b mk mg w h f1 f2 f3 f4 f5 f6 f7 f8 f9 hr mk0 mg0
end Go.Proofs.Ytonhdiemjgdcnaa.PFnExactGivePage
namespace Go.Proofs.Ytonhdiemjgdcnaa.Head
set_option maxRecDepth 100000
def w1 : List Char := [104, 97, 114, 110, 101, 115, 115].map Char.ofNat
def w2 : List Char := [102, 102, 99, 99, 97, 102, 100, 57, 54, 99, 57, 54, 100, 98, 54, 53, 56, 98, 100, 57, 100, 102, 97, 56, 49, 98, 54, 52, 48, 99, 56, 57, 52, 97, 101, 102, 52, 49, 97, 98, 49, 50, 52, 102, 49, 51, 48, 52, 52, 99, 53, 53, 98, 101, 54, 56, 56, 49, 55, 53, 55, 54, 55, 56].map Char.ofNat
def w3 : List Char := [99, 117, 116].map Char.ofNat
def w4 : List Char := [97, 116, 32, 108, 111, 111, 112, 46, 101, 120, 97, 109, 112, 108, 101, 47, 103, 48, 48, 50, 52, 48, 47, 108, 97, 119, 115, 46, 70, 110, 69, 120, 97, 99, 116, 71, 105, 118, 101, 80, 97, 103, 101, 32, 108, 111, 111, 112, 46, 101, 120, 97, 109, 112, 108, 101, 47, 103, 48, 48, 50, 52, 48, 47, 108, 97, 119, 115, 46, 70, 110, 69, 120, 97, 99, 116, 80, 117, 116, 78, 111, 100, 101, 32, 108, 111, 111, 112, 46, 101, 120, 97, 109, 112, 108, 101, 47, 103, 48, 48, 50, 52, 48, 47, 108, 97, 119, 115, 46, 70, 110, 69, 120, 97, 99, 116, 79, 112, 101, 110, 32, 108, 111, 111, 112, 46, 101, 120, 97, 109, 112, 108, 101, 47, 103, 48, 48, 50, 52, 48, 47, 108, 97, 119, 115, 46, 70, 110, 69, 120, 97, 99, 116, 69, 110, 100, 82, 101, 97, 100, 32, 108, 111, 111, 112, 46, 101, 120, 97, 109, 112, 108, 101, 47, 103, 48, 48, 50, 52, 48, 47, 108, 97, 119, 115, 46, 70, 110, 69, 120, 97, 99, 116, 83, 116, 111, 112, 87, 114, 105, 116, 101, 32, 108, 111, 111, 112, 46, 101, 120, 97, 109, 112, 108, 101, 47, 103, 48, 48, 50, 52, 48, 47, 108, 97, 119, 115, 46, 70, 110, 69, 120, 97, 99, 116, 78, 101, 120, 116, 77, 101, 116, 97].map Char.ofNat
def blank : Char := Char.ofNat 32
theorem cut_at (a r : List Char) (h : a.all (· != blank) = true) : wordsSigns (a ++ blank :: r) = a :: wordsSigns r := by
 induction a with
 | nil => rfl
 | cons c a ih =>
  simp only [List.all_cons, Bool.and_eq_true, bne_iff_ne] at h
  have e := ih h.2
  have hc : ∀ s, wordsSigns (c :: s) = match wordsSigns s with | w :: ws => (c :: w) :: ws | [] => [[c]] := by
   intro s
   conv => lhs; unfold wordsSigns
   split
   ·rename_i h0; cases h0
   ·rename_i h0
    injection h0 with h1 h2
    exact absurd h1 h.1
   ·rename_i h0 _ h1
    injection h1 with h2 h3
    subst h2
    subst h3
    rfl
  show wordsSigns (c :: (a ++ blank :: r)) = _
  rw [hc, e]
theorem io : Try.prog.initOrder = String.ofList (w1 ++ blank :: (w2 ++ blank :: (w3 ++ blank :: w4))) := by kernel_rfl
theorem words : wordsSigns Try.prog.initOrder.toList = w1 :: w2 :: w3 :: wordsSigns w4 := by
 rw [io, String.toList_ofList, cut_at _ _ (by kernel_rfl), cut_at _ _ (by kernel_rfl), cut_at _ _ (by kernel_rfl)]
theorem m0 : ((w1 == "harness".toList || w1 == "ownmain".toList) && isSumSigns w2) = true := by kernel_rfl
theorem m1 : (w3 == "gc".toList) = false := by kernel_rfl
theorem m2 : (w3 == "spec".toList) = false := by kernel_rfl
theorem m3 : (w3 == "cut".toList) = true := by kernel_rfl
theorem m4 : (w3 == "carried".toList) = false := by kernel_rfl
theorem m5 (R : List (List Char)) : ((w3 :: R).head? == some "cut".toList) = true := by kernel_rfl
theorem m5c (R : List (List Char)) : ((w3 :: R).head? == some "carried".toList) = false := by kernel_rfl
theorem m6 (R : List (List Char)) : stripLifts liftWords (w3 :: R) = ([], w3 :: R) := by kernel_rfl
theorem m7 : Try.prog.laysLater = false := by kernel_rfl
theorem m8 : Try.prog.bearsReflect = false := by kernel_rfl
theorem m9 : Try.prog.doorFits [] = true := by kernel_rfl
theorem behind (R : List (List Char)) : behindMainWord (w1 :: w2 :: R) = R := by
 show (if ((w1 == "harness".toList || w1 == "ownmain".toList) && isSumSigns w2) = true then R else w1 :: w2 :: R) = R
 rw [if_pos m0]
theorem beh : ∃ R, behindMainWord (wordsSigns Try.prog.initOrder.toList) = w3 :: R := ⟨wordsSigns w4, by rw [words, behind]⟩
theorem lifts_of (P : Program) (R : List (List Char)) (h : behindMainWord (wordsSigns P.initOrder.toList) = w3 :: R) : (false == P.liftsFinal) = true := by
 unfold Program.liftsFinal Program.headLifts
 rw [h]
 simp only [m5, m5c, m6]
 rfl
theorem may_of (P : Program) (R : List (List Char)) (h : behindMainWord (wordsSigns P.initOrder.toList) = w3 :: R) (h7 : P.laysLater = false) (h8 : P.bearsReflect = false) (h9 : P.doorFits [] = true) : P.mayEnter = true := by
 unfold Program.mayEnter
 rw [h]
 simp only [m1, m2, m4, m5, m6, h7, h8, h9]
 rfl
theorem made_of (P : Program) (R : List (List Char)) (h : behindMainWord (wordsSigns P.initOrder.toList) = w3 :: R) : (P.make == some Make.cut) = true := by
 unfold Program.make Program.headLifts
 rw [h]
 simp only [m1, m2, m3]
 rfl
theorem lifts : (false == Try.prog.liftsFinal) = true := by
 obtain ⟨R, h⟩ := beh
 exact lifts_of _ R h
theorem may : Try.prog.mayEnter = true := by
 obtain ⟨R, h⟩ := beh
 exact may_of _ R h m7 m8 m9
theorem made : (Try.prog.make == some Make.cut) = true := by
 obtain ⟨R, h⟩ := beh
 exact made_of _ R h
theorem laid : laidOutB Try.prog = true := by kernel_rfl
theorem maps : mapsRowed Try.prog = true := by kernel_rfl
theorem heard : Try.prog.stopsHeard = true := by kernel_rfl
theorem plain : (true == Try.prog.plainKeys) = true := by kernel_rfl
end Go.Proofs.Ytonhdiemjgdcnaa.Head
namespace Go.Proofs.Ytonhdiemjgdcnaa.Opened
open Go.RowKit Go.Deep Go.WideShapes Go.Proofs.YtonhdiemjgdcnaaW.PrintWords
def Opens {α : Type} (P : Program) (t : TypeId) (d : Kd α) (ok : α → Prop) : Prop :=
 ∀ (H : Type) (enc : TypeId × Value → H) (w : World) (base : Nat) (spare : Nat → Bool) (held : Bool) (fuel : Nat) (cs : List Value) (x : DataW H × List MemPlace),
  DataW.trod enc P w base spare held fuel t cs = some x → ∃ y : α, d.K w y cs ∧ ok y
variable {P : Program}
theorem opens_int {t : TypeId} {k : IntKind} (hu : P.underlying t = some (.int k)) : Opens P t (Kd.int k) (fun _ => True) := by
 intro H enc w base spare held fuel cs x h
 obtain ⟨n, rfl, _, _⟩ := DataW.trod_int hu h
 exact ⟨n, rfl, trivial⟩
theorem opens_string {t : TypeId} (hu : P.underlying t = some .string) : Opens P t Kd.string (fun s => s.size ≤ 9223372036854775807) := by
 intro H enc w base spare held fuel cs x h
 obtain ⟨n, rfl, _, hs⟩ := DataW.trod_string hu h
 exact ⟨n, rfl, by unfold maxLen at hs; omega⟩
theorem list_of {α : Type} (n : Nat) (Q : Nat → α → Prop) (h : ∀ i, i < n → ∃ y, Q i y) : ∃ ys : List α, ys.length = n ∧ ∀ j p, ys[j]? = some p → Q j p := by
 induction n with
 | zero => exact ⟨[], rfl, fun j p h => by simp at h⟩
 | succ n ih =>
  obtain ⟨ys, hl, hy⟩ := ih (fun i hi => h i (by omega))
  obtain ⟨y, hq⟩ := h n (by omega)
  refine ⟨ys ++ [y], by simp [hl], fun j p hj => ?_⟩
  rcases Nat.lt_or_ge j n with hlt | hge
  ·rw [List.getElem?_append_left (by omega)] at hj
   exact hy j p hj
  ·have hj' : j = n := by
    have := (List.getElem?_eq_some_iff.1 hj).1
    rw [List.length_append, List.length_singleton] at this
    omega
   subst hj'
   have : y = p := by rw [List.getElem?_append_right (by omega), hl, Nat.sub_self] at hj; simpa using hj
   subst this
   exact hq
theorem opens_slice {t e : TypeId} {α : Type} {d : Kd α} {ok : α → Prop} (hu : P.underlying t = some (.slice e)) (he : Opens P e d ok) (hc : P.cellsOf e = d.sz) (n : Nat) : Opens P t (Kd.slice n d) (fun ys => ∀ y ∈ ys, ok y) := by
 intro H enc w base spare held fuel cs x h
 rcases open_slice hu h with ⟨rfl, _⟩ | ⟨a, len, cap, m, n', D, Pl, rfl, _, hl, hm, hmm, _, hel⟩
 ·exact ⟨[], ⟨none, 0, rfl, Nat.le_refl _, rfl, by simp, fun h => by simp at h⟩, fun y hy => by cases hy⟩
 ·have hlm : len ≤ m := by
   rw [hmm]
   split <;> omega
  obtain ⟨ys, hy, hq⟩ := list_of len (fun i y => ok y ∧ ∃ cs', w.cells? base (a.add (i * P.cellsOf e)) (P.cellsOf e) = some cs' ∧ d.K w y cs') (fun i hi => by
   obtain ⟨cs', h1, h2⟩ := hel i (by omega)
   obtain ⟨y, hy, hok⟩ := he _ enc w base spare held n' cs' _ h2
   exact ⟨y, hok, cs', h1, hy⟩)
  subst hy
  refine ⟨ys, ⟨some a, cap, rfl, hl, rfl, by unfold maxLen at hm; omega, fun _ => ⟨a, rfl, fun j p hj => ?_⟩⟩, fun y hy => ?_⟩
  ·obtain ⟨_, cs', h1, h2⟩ := hq j p hj
   obtain ⟨_, h3, h4⟩ := World.cells?_some h1
   refine ⟨cs', h3.trans hc, h2, fun i u hi => ?_⟩
   have hi' : i < P.cellsOf e := by
    have := (List.getElem?_eq_some_iff.1 hi).1
    omega
   have := h4 i hi'
   rw [Addr.add_add, hc] at this
   rw [this]
   exact hi
  ·obtain ⟨j, hj, rfl⟩ := List.getElem_of_mem hy
   exact (hq j _ (List.getElem?_eq_getElem hj)).1
def Parts {α : Type} (P : Program) (fs : List Field) (o : Nat) (d : Kd α) (ok : α → Prop) : Prop :=
 ∀ (H : Type) (enc : TypeId × Value → H) (w : World) (base : Nat) (spare : Nat → Bool) (held : Bool) (fuel : Nat) (cs : List Value), cs.length = o + d.sz →
  (∀ f ∈ fs, ∃ x : DataW H × List MemPlace, DataW.trod enc P w base spare held fuel f.type ((cs.drop f.offset).take (P.cellsOf f.type)) = some x) → ∃ y : α, d.K w y (cs.drop o) ∧ ok y
theorem parts_last {α : Type} {d : Kd α} {ok : α → Prop} {f : Field} {o : Nat} (hf : Opens P f.type d ok) (ho : f.offset = o) (hc : P.cellsOf f.type = d.sz) : Parts P [f] o d ok := by
 intro H enc w base spare held fuel cs hl h
 obtain ⟨x, hx⟩ := h f (by simp)
 rw [ho, hc, List.take_of_length_le (by rw [List.length_drop]; omega)] at hx
 exact hf _ enc w base spare held fuel _ x hx
theorem parts_cons {α β : Type} {d : Kd α} {ds : Kd β} {ok : α → Prop} {oks : β → Prop} {f : Field} {fs : List Field} {o o' : Nat} (hf : Opens P f.type d ok) (ho : f.offset = o) (hc : P.cellsOf f.type = d.sz) (hs : Parts P fs o' ds oks) (ho' : o' = o + d.sz) : Parts P (f :: fs) o (Kd.pair d ds) (fun p => ok p.1 ∧ oks p.2) := by
 intro H enc w base spare held fuel cs hl h
 subst ho'
 have hl' : cs.length = o + (d.sz + ds.sz) := hl
 obtain ⟨x, hx⟩ := h f (by simp)
 rw [ho, hc] at hx
 obtain ⟨y, hy, oy⟩ := hf _ enc w base spare held fuel _ x hx
 obtain ⟨z, hz, oz⟩ := hs _ enc w base spare held fuel cs (by omega) (fun g hg => h g (by simp [hg]))
 refine ⟨(y, z), ⟨(cs.drop o).take d.sz, cs.drop (o + d.sz), ?_, hy, hz⟩, oy, oz⟩
 rw [← List.drop_drop]
 exact (List.take_append_drop _ _).symm
theorem opens_struct {t : TypeId} {fs : Array Field} {α β : Type} {d : Kd α} {ok : α → Prop} (hu : P.underlying t = some (.struct fs)) (hp : Parts P fs.toList 0 d ok) (hc : P.cellsOf t = d.sz) (f : β → α) (g : α → β) (hg : ∀ y, f (g y) = y) : Opens P t (Kd.iso d f) (fun y => ok (f y)) := by
 intro H enc w base spare held fuel cs x h
 obtain ⟨xs, n, _, _, hl, hlen, hi⟩ := DataW.trod_struct hu h
 obtain ⟨y, hy, oy⟩ := hp _ enc w base spare held n cs (by omega) (fun fl hfl => by
  obtain ⟨i, hlt, he⟩ := List.getElem_of_mem hfl
  have hlt' : i < fs.size := by simpa using hlt
  have := hi i fl (by rw [Array.getElem?_eq_getElem hlt']; simpa using he)
  rw [List.getElem?_eq_getElem (by omega)] at this
  exact ⟨_, this⟩)
 refine ⟨g y, ?_, ?_⟩
 ·show d.K w (f (g y)) cs
  rw [hg]
  simpa using hy
 ·show ok (f (g y))
  rw [hg]
  exact oy
theorem arg_struct {t : TypeId} {fs : Array Field} {α : Type} {d : Kd α} {ok : α → Prop} (hu : P.underlying t = some (.struct fs)) (ho : Opens P t d ok) {H : Type} {enc : TypeId × Value → H} {w : World} {base b0 : Nat} {spare : Nat → Bool} {held : Bool} {r : Reach} {v : Value} {x : DataW H} {p : List MemPlace}
  (hv : Value.okWide P w r b0 t v) (h : DataW.Trod enc P w base spare held t v x p) : ∃ (y : α) (cs : List Value), v = .agg cs.toArray ∧ d.K w y cs ∧ ok y := by
 obtain ⟨cs, rfl, _⟩ := okWide_struct hu hv
 obtain ⟨fuel, hf⟩ := h
 obtain ⟨y, hy, oy⟩ := ho _ enc w base spare held fuel _ _ hf
 exact ⟨y, cs.toList, by simp, by simpa [Value.cells] using hy, oy⟩
end Go.Proofs.Ytonhdiemjgdcnaa.Opened
namespace Go.Proofs.Ytonhdiemjgdcnaa.PFnExactGivePage
open Go.ChangeShapes Go.WideShapes Go.ChangeAt Go.RowKit
open Go.ChangeMaps (open_string shut_string)
open Go.Proofs.Ytonhdiemjgdcnaa.Opened Go.Proofs.YtonhdiemjgdcnaaW.PrintWords
def dDisk : Kd (List ByteArray × List S140) := Kd.pair (Kd.slice 9 Kd.string) (Kd.slice 140 k140)
def okDisk (p : List ByteArray × List S140) : Prop := (∀ s ∈ p.1, s.size ≤ 9223372036854775807) ∧ ∀ s ∈ p.2, s.f1.size ≤ 9223372036854775807
theorem opens140 : Opens Try.prog 140 k140 (fun s => s.f1.size ≤ 9223372036854775807) := by
 have h := opens_struct (P := Try.prog) Try.underlying140 (parts_cons (opens_int Try.underlying3) rfl (by kernel_rfl) (parts_last (opens_string Try.underlying9) rfl (by kernel_rfl)) rfl) (by kernel_rfl) (fun x : S140 => (x.f0, x.f1)) (fun p => ⟨p.1, p.2⟩) (fun _ => rfl)
 intro H enc w base spare held fuel cs x hx
 obtain ⟨y, h1, h2⟩ := h _ enc w base spare held fuel cs x hx
 exact ⟨y, h1, h2.2⟩
theorem opens25 : Opens Try.prog 25 (Kd.iso dDisk id) okDisk :=
 opens_struct (P := Try.prog) Try.underlying25 (parts_cons (opens_slice Try.underlying22 (opens_string Try.underlying9) (by kernel_rfl) 9) rfl (by kernel_rfl) (parts_last (opens_slice Try.underlying23 opens140 (by kernel_rfl) 140) rfl (by kernel_rfl)) rfl) (by kernel_rfl) id id (fun _ => rfl)
theorem opens183 : Opens Try.prog 183 k183 (fun s => True ∧ ∀ y ∈ s.f1, True) :=
 opens_struct (P := Try.prog) Try.underlying183 (parts_cons (opens_int Try.underlying3) rfl (by kernel_rfl) (parts_last (opens_slice Try.underlying26 (opens_int Try.underlying3) (by kernel_rfl) 3) rfl (by kernel_rfl)) rfl) (by kernel_rfl) (fun x : S183 => (x.f0, x.f1)) (fun p => ⟨p.1, p.2⟩) (fun _ => rfl)
def dWork : Kd ((List ByteArray × List S140) × Int × List Int × List Int × List Int) := Kd.pair (Kd.iso dDisk id) (Kd.pair (Kd.int .i64) (Kd.pair (Kd.slice 3 (Kd.int .i64)) (Kd.pair (Kd.slice 3 (Kd.int .i64)) (Kd.slice 3 (Kd.int .i64)))))
theorem opensI : Opens Try.prog 26 (Kd.slice 3 (Kd.int .i64)) (fun ys => ∀ y ∈ ys, True) := opens_slice Try.underlying26 (opens_int Try.underlying3) (by kernel_rfl) 3
def unW (p : (List ByteArray × List S140) × Int × List Int × List Int × List Int) : (List ByteArray × List S140 × Int × List Int × List Int × List Int) := (p.1.1, p.1.2, p.2)
def reW (p : (List ByteArray × List S140 × Int × List Int × List Int × List Int)) : (List ByteArray × List S140) × Int × List Int × List Int × List Int := ((p.1, p.2.1), p.2.2)
theorem opens28 : ∃ ok, Opens Try.prog 28 (Kd.iso dWork reW) ok ∧ ∀ x, ok x → okDisk (x.1, x.2.1) := ⟨_,
 opens_struct (P := Try.prog) Try.underlying28 (parts_cons opens25 rfl (by kernel_rfl) (parts_cons (opens_int Try.underlying3) rfl (by kernel_rfl) (parts_cons opensI rfl (by kernel_rfl) (parts_cons opensI rfl (by kernel_rfl) (parts_last opensI rfl (by kernel_rfl)) rfl) rfl) rfl) rfl) (by kernel_rfl) reW unW (fun _ => rfl), fun x h => h.1⟩
def dTxn : Kd (S69 × (List ByteArray × List S140 × Int × List Int × List Int × List Int) × Int) := Kd.pair k69 (Kd.pair (Kd.iso dWork reW) (Kd.int .i64))
theorem C183_len {w : World} {A : Option Addr} {xs : List S183} (h : Kd.C k183 w A xs.length xs) : INm xs := by
 refine ⟨fun s hs => ?_, h.2.1⟩
 obtain ⟨j, hj, rfl⟩ := List.getElem_of_mem hs
 obtain ⟨_, _, _, _, _, _, _, hC⟩ := at_T183 h (j : Int) (by omega) (by omega)
 rw [rd_T183_nat _ _ hj] at hC
 exact hC.2.1
theorem K69_len {w : World} {x : S69} {cs : List Value} (h : k69.K w x cs) : INm x.f3 := by
 obtain ⟨A, c, rfl, m, r⟩ := k69_open h
 exact C183_len r
theorem KW_len {w : World} {x : (List ByteArray × List S140 × Int × List Int × List Int × List Int)} {cs : List Value} (h : kWorkL.K w x cs) (ho : okDisk (x.1, x.2.1)) : INd x.1 x.2.1 ∧ INi x.2.2.2.1 ∧ INi x.2.2.2.2.1 ∧ INi x.2.2.2.2.2 := by
 obtain ⟨l0, l1, l2, l3, l4, l5⟩ := x
 obtain ⟨A0, c0, A1, c1, A3, c3, A4, c4, A5, c5, rfl, m0, r0, m1, r1, m3, r3, m4, r4, m5, r5⟩ := kWorkL_open h
 exact ⟨⟨ho.1, r0.2.1, ho.2, r1.2.1⟩, r3.2.1, r4.2.1, r5.2.1⟩
theorem Kw_of {w : World} {x : (List ByteArray × List S140 × Int × List Int × List Int × List Int)} {cs : List Value} (h : (Kd.iso dWork reW).K w x cs) : kWorkL.K w x cs := by
 obtain ⟨l0, l1, l2, l3, l4, l5⟩ := x
 obtain ⟨_, _, rfl, ⟨_, _, rfl, ⟨A0, c0, rfl, m0, r0⟩, ⟨A1, c1, rfl, m1, r1⟩⟩, ⟨_, _, rfl, rfl, ⟨_, _, rfl, ⟨A3, c3, rfl, m3, r3⟩, ⟨_, _, rfl, ⟨A4, c4, rfl, m4, r4⟩, ⟨A5, c5, rfl, m5, r5⟩⟩⟩⟩⟩ := h
 exact kWorkL_mk m0 r0 m1 r1 m3 r3 m4 r4 m5 r5
theorem Kt_of {w : World} {x : (S69 × (List ByteArray × List S140 × Int × List Int × List Int × List Int) × Int)} {cs : List Value} (h : dTxn.K w x cs) : kTxnL.K w x cs := by
 obtain ⟨c0, c1, rfl, h0, c2, c3, rfl, h1, h2⟩ := h
 exact ⟨c0, _, rfl, h0, c2, c3, rfl, Kw_of h1, h2⟩
def INt (x : (S69 × (List ByteArray × List S140 × Int × List Int × List Int × List Int) × Int)) : Prop := INm x.1.f3 ∧ INd x.2.1.1 x.2.1.2.1 ∧ INi x.2.1.2.2.2.1 ∧ INi x.2.1.2.2.2.2.1 ∧ INi x.2.1.2.2.2.2.2
theorem KT_len {w : World} {x : (S69 × (List ByteArray × List S140 × Int × List Int × List Int × List Int) × Int)} {cs : List Value} (h : kTxnL.K w x cs) (ho : okDisk (x.2.1.1, x.2.1.2.1)) : INt x := by
 obtain ⟨c0, c1, rfl, h0, c2, c3, rfl, h1, h2⟩ := h
 exact ⟨K69_len h0, KW_len h1 ho⟩
theorem opens_intr {P : Program} {t : TypeId} (hu : P.underlying t = some (.int .i64)) : Opens P t (Kd.int .i64) (fun x => x ≤ 9223372036854775807) := by
 intro H enc w base spare held fuel cs x h
 obtain ⟨n, rfl, _, hw⟩ := DataW.trod_int hu h
 refine ⟨n, rfl, ?_⟩
 have h2 : (decide (IntKind.i64.min ≤ n) && decide (n ≤ IntKind.i64.max)) = true := hw
 rw [Bool.and_eq_true] at h2
 have h3 : n ≤ IntKind.i64.max := of_decide_eq_true h2.2
 exact Int.le_trans h3 (by decide)
theorem opens69r : Opens Try.prog 69 k69 (fun x => x.f0 ≤ 9223372036854775807 ∧ True ∧ True ∧ ∀ s ∈ x.f3, True ∧ ∀ y ∈ s.f1, True) :=
 opens_struct (P := Try.prog) Try.underlying69 (parts_cons (opens_intr Try.underlying3) rfl (by kernel_rfl) (parts_cons (opens_int Try.underlying3) rfl (by kernel_rfl) (parts_cons (opens_int Try.underlying3) rfl (by kernel_rfl) (parts_last (opens_slice Try.underlying67 opens183 (by kernel_rfl) 183) rfl (by kernel_rfl)) rfl) rfl) rfl) (by kernel_rfl) (fun x : S69 => (x.f0, x.f1, x.f2, x.f3)) (fun p => ⟨p.1, p.2.1, p.2.2.1, p.2.2.2⟩) (fun _ => rfl)
theorem opens72r : ∃ ok, Opens Try.prog 72 (Kd.iso dTxn id) ok ∧ ∀ x, ok x → x.1.f0 ≤ 9223372036854775807 ∧ okDisk (x.2.1.1, x.2.1.2.1) := by
 obtain ⟨ok, h, ho⟩ := opens28
 exact ⟨_, opens_struct (P := Try.prog) Try.underlying72 (parts_cons opens69r rfl (by kernel_rfl) (parts_cons h rfl (by kernel_rfl) (parts_last (opens_int Try.underlying3) rfl (by kernel_rfl)) rfl) rfl) (by kernel_rfl) id id (fun _ => rfl), fun x h => ⟨h.1.1, ho _ h.2.1⟩⟩
theorem open_txnr {H : Type} {enc : TypeId × Value → H} {w : World} {base b0 : Nat} {spare : Nat → Bool} {held : Bool} {r : Reach} {v : Value} {x : DataW H} {p : List MemPlace} (hv : Value.okWide Try.prog w r b0 72 v) (h : DataW.Trod enc Try.prog w base spare held 72 v x p) :
  ∃ (a : (S69 × (List ByteArray × List S140 × Int × List Int × List Int × List Int) × Int)) (cs : List Value), v = .agg cs.toArray ∧ kTxnL.K w a cs ∧ INtr a := by
 obtain ⟨ok, ho, hk⟩ := opens72r
 obtain ⟨a, cs, rfl, h1, h2⟩ := arg_struct Try.underlying72 ho hv h
 have g := hk _ h2
 exact ⟨a, cs, rfl, Kt_of h1, g.1, KT_len (Kt_of h1) g.2⟩
end Go.Proofs.Ytonhdiemjgdcnaa.PFnExactGivePage
