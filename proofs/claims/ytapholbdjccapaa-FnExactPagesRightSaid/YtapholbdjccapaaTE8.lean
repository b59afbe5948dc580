import Derived.Test.YtapholbdjccapaaTE7
set_option maxHeartbeats 64000000
set_option maxRecDepth 100000
set_option linter.unusedVariables false
set_option linter.unusedSimpArgs false
namespace Go.Proofs.Ytapholbdjccapaa.PFnExactTreeOk
open Go.RowKit Go.Proofs.YtapholbdjccapaaW.PrintWords Go.Proofs.YtapholbdjccapaaW.PrintLast Go.Proofs.YtapholbdjccapaaW.PrintMore
attribute [local go_sem] max2_int min2_int max_two min_two max_three min_three max_four min_four
def spec_ReadNode.T10 : Bool × List (List Nat × List Nat) := (true, [([], []), ([0], [0]), ([], []), ([2], [2]), ([3], [3]), ([1, 4, 3], [1, 4]), ([0, 1, 2, 3, 4, 5], []), ([6, 5, 5, 0, 1, 2, 3, 4, 5], [5, 6])])
def spec_ReadNode.B10 : List Nat := [0, 1, 0, 4, 12, 31, 63, 127]
theorem spec_ReadNode.ok10_0 : regB (opsOf Try.f35 10) spec_ReadNode.T10 spec_ReadNode.B10 [7] [.p 0, .p 2, .t 1, .e 3, .e 4, .e 5, .p 6, .l 7] = true := by kernel_rfl
def spec_ReadNode.T12 : Bool × List (List Nat × List Nat) := (true, [([], []), ([0], [0]), ([], []), ([2], [2]), ([3], [3]), ([1, 4, 3], [1, 4]), ([0, 1, 2, 3, 4, 5], []), ([6, 5, 5, 0, 1, 2, 3, 4, 5], [5, 6])])
def spec_ReadNode.B12 : List Nat := [0, 1, 0, 4, 12, 31, 63, 127]
theorem spec_ReadNode.ok12_1 : regB (opsOf Try.f35 12) spec_ReadNode.T12 spec_ReadNode.B12 [7] [.p 0, .p 2, .t 1, .e 3, .e 4, .e 5, .p 6, .l 7] = true := by kernel_rfl
def spec_ReadNode.T13 : Bool × List (List Nat × List Nat) := (true, [([], []), ([0], [0]), ([], []), ([2], [2]), ([3], [3]), ([1, 4, 3], [1, 4]), ([0, 1, 2, 3, 4, 5], []), ([6, 5, 5, 0, 1, 2, 3, 4, 5], [5, 6])])
def spec_ReadNode.B13 : List Nat := [0, 1, 0, 4, 12, 31, 63, 127]
theorem spec_ReadNode.ok13_2 : regB (opsOf Try.f35 13) spec_ReadNode.T13 spec_ReadNode.B13 [7] [.p 0, .p 2, .t 1, .e 3, .e 4, .e 5, .p 6, .l 7] = true := by kernel_rfl
theorem spec_num_rd {s : ByteArray} {at_ : Int} {bad : Bool} {g : Nat} {w0 w : World} {x a1 : Int} {b1 : Bool} (hr : rNum s at_ bad 1000000000 = (x, a1, b1)) (hs : s.size ≤ 140737488351232) (hI : w.heap[g]? = some (.cells #[.string s, .int .i64 at_, .bool bad] 123 (0, 0))) (hg : w0.heap.size ≤ g) (hB : Below w0.heap.size w0 w) :
  Calls Try.prog 82 #[.pointer (some ⟨g, 0, none⟩)] w (RdPost w0 w g 123 (.int .i64 x) s a1 b1) := by
 have h := spec_reads.num s at_ bad 0 g w0 w hs hI hg hB
 simp only [hr] at h
 exact h
theorem spec_text_rd {s : ByteArray} {at_ : Int} {bad : Bool} {g : Nat} {w0 w : World} {x : ByteArray} {a1 : Int} {b1 : Bool} (hr : rText s at_ bad = (x, a1, b1)) (hs : s.size ≤ 140737488351232) (hI : w.heap[g]? = some (.cells #[.string s, .int .i64 at_, .bool bad] 123 (0, 0))) (hg : w0.heap.size ≤ g) (hB : Below w0.heap.size w0 w) :
  Calls Try.prog 93 #[.pointer (some ⟨g, 0, none⟩)] w (RdPost w0 w g 123 (.string x) s a1 b1) := by
 have h := spec_reads.text s at_ bad g w0 w hs hI hg hB
 simp only [hr] at h
 exact h
theorem spec_node_leaf (k k2 : Nat) (t body : ByteArray) (w : World) (hu : spec_Unsealed.f k t = some (body, true)) (hs : body.size ≤ 140737488351232) (h0 : 2 ≤ body.size) (hb0 : ∀ h : 0 < body.size, ((body[0]'h).toNat : Int) = 108) (kn J : Nat) (at0 : Int) (bad0 : Bool) (hk : rNum body 1 false 1000000000 = ((kn : Int), at0, bad0)) (hkn : kn ≤ 1000000000) (hJ1 : J ≤ kn) (hJ2 : J ≤ 10) (hJ3 : ∀ j, j < J → (nIter true body 1000000000 ⟨at0, bad0, [], [], []⟩ j).bad = false) (at_ : Int) (bad : Bool) (keys vals : List ByteArray) (kids : List Int) (hJ4 : J = kn ∨ J = 10 ∨ bad = true) (hst : nIter true body 1000000000 ⟨at0, bad0, [], [], []⟩ J = ⟨at_, bad, keys, vals, kids⟩) (back : ByteArray) (right : Bool) (hnt : spec_NodeText.f k2 true keys vals kids = some (back, right)) (n : S68) (ok : Bool) (hres : (bad = false ∧ right = true ∧ back.toList = t.toList ∧ n = ⟨true, keys, vals, kids⟩ ∧ ok = true) ∨ ((bad = true ∨ right = false ∨ ¬ back.toList = t.toList) ∧ n = z68 ∧ ok = false)) :
  Calls Try.prog 35 #[.string t] w (NodePost w n ok) := by
 have HU := Aside0.mk hu
 have HK := Aside0.mk hk
 have HST := Aside0.mk hst
 have HRES := Aside0.mk hres
 have HJ3 := Aside0.mk hJ3
 have HJ4 := Aside0.mk hJ4
 have HNT := Aside0.mk hnt
 have HL0 : decide ((body.size : Int) < 2) = false := decide_eq_false (by omega)
 have HL1 : decide (body.size < 2) = false := decide_eq_false (by omega)
 have HL2 : 0 < body.size := by omega
 clear hu hk hst hres hJ3 hJ4 hnt
 go_enter Try.func35, Try.ntmps35
 go_wp2_with fail
 ((with_reducible refine (spec_Unsealed.calls k t body true _ HU.out).mono ?_); rintro e w1 ⟨rfl, hb1⟩)
 obtain ⟨hc1, hf1⟩ := bcell hb1
 have hz1 : w.heap.size < w1.heap.size := by have hh := hb1.size; (try simp at hh); omega
 have HB1 := Aside0.mk hb1
 clear hb1
 have HI := Aside0.mk (show NInv (w.alloc (.cells #[.bool false, .slice none 0 0, .slice none 0 0, .slice none 0 0] 68)) ((w1.alloc (.cells #[.string body, .int .i64 1, .bool false] 123)).alloc (.cells #[.bool true, .slice none 0 0, .slice none 0 0, .slice none 0 0] 68)) (w1.heap.size + 1) w1.heap.size 123 body true (.slice none 0 0) (.slice none 0 0) (.slice none 0 0) 1 false [] [] [] from
  ⟨by have z := blk_new (w1.alloc (.cells #[.string body, .int .i64 1, .bool false] 123)) (.cells #[.bool true, .slice none 0 0, .slice none 0 0, .slice none 0 0] 68); simpa using z, blk_alloc (blk_new w1 _) _, by simp; omega, by simp; omega, Kd.R_nil _ _ _ _ _, Kd.R_nil _ _ _ _ _, Kd.R_nil _ _ _ _ _, fun k hk => by simp [Value.ownBlock] at hk, below_alloc (below_alloc HB1.out _) _⟩)
 go_wp2_with fail
 ((with_reducible refine (spec_num_rd HK.out hs HI.out.bR HI.out.hR HI.out.bel).mono ?_); rintro e w2 ⟨rfl, hI2, hb2, hk2⟩)
 have HN0 := Aside0.mk (HI.out.read (by decide) (by decide) (by decide) hI2 hb2 hk2)
 clear HI hI2 hb2 hk2 hc1 hf1
 go_wp2_with fail
 go_loopg [9] J (fun gg s9 wr => ∃ (kk : Nat) (A1 : Option Addr) (c1 : Nat) (A2 : Option Addr) (c2 : Nat) (A3 : Option Addr) (c3 : Nat), kk ≤ J ∧ J - kk ≤ gg ∧ s9 = .int .i64 kk ∧ Aside0 (NInv (w.alloc (.cells #[.bool false, .slice none 0 0, .slice none 0 0, .slice none 0 0] 68)) wr (w1.heap.size + 1) w1.heap.size 123 body true (.slice A1 (nIter true body 1000000000 ⟨at0, bad0, [], [], []⟩ kk).keys.length c1) (.slice A2 (nIter true body 1000000000 ⟨at0, bad0, [], [], []⟩ kk).vals.length c2) (.slice A3 (nIter true body 1000000000 ⟨at0, bad0, [], [], []⟩ kk).kids.length c3) (nIter true body 1000000000 ⟨at0, bad0, [], [], []⟩ kk).at_ (nIter true body 1000000000 ⟨at0, bad0, [], [], []⟩ kk).bad (nIter true body 1000000000 ⟨at0, bad0, [], [], []⟩ kk).keys (nIter true body 1000000000 ⟨at0, bad0, [], [], []⟩ kk).vals (nIter true body 1000000000 ⟨at0, bad0, [], [], []⟩ kk).kids))
 case atStart => exact ⟨0, none, 0, none, 0, none, 0, Nat.zero_le _, by omega, rfl, HN0⟩
 case round =>
  clear HN0
  obtain ⟨kk, A1, c1, A2, c2, A3, c3, hkk, hg, rfl, HN⟩ := hrel
  by_cases hlt : kk < J
  ·have hlt1 : decide ((kk : Int) < (kn : Int)) = true := decide_eq_true (by omega)
   have hlt2 : decide (kk < kn) = true := decide_eq_true (by omega)
   have hlt3 : decide ((kk : Int) < 10) = true := decide_eq_true (by omega)
   have hlt4 : decide (kk < 10) = true := decide_eq_true (by omega)
   have HLEN0 := nIter_len true body 1000000000 ⟨at0, bad0, [], [], []⟩ rfl rfl rfl kk
   have HB0 := Aside0.mk (HJ3.out kk hlt)
   have HSTEP := Aside0.mk (show (nIter true body 1000000000 ⟨at0, bad0, [], [], []⟩ (kk + 1)) = nStep true body 1000000000 (nIter true body 1000000000 ⟨at0, bad0, [], [], []⟩ kk) from rfl)
   generalize hsk : (nIter true body 1000000000 ⟨at0, bad0, [], [], []⟩ kk) = sk at HN HLEN0 HSTEP HB0
   obtain ⟨a1, b1, keys1, vals1, kids1⟩ := sk
   clear hsk
   simp only at HN HLEN0
   obtain rfl : b1 = false := HB0.out
   obtain ⟨x1, a2, b2, hx⟩ : ∃ x1 a2 b2, rText body a1 false = (x1, a2, b2) := ⟨_, _, _, rfl⟩
   have HX := Aside0.mk hx
   have HX1 := Aside0.mk hx
   clear hx
   have HLEN := Aside0.mk (show keys1.length ≤ 10 by omega)
   have HLEV := Aside0.mk (show vals1.length ≤ 10 by omega)
   have HLEK := Aside0.mk (show kids1.length ≤ 10 by omega)
   clear HLEN0
   have hcb : wr.cell? ⟨w1.heap.size, 2, none⟩ = some (.bool false) := (blk_cell HN.out.bR 2).trans rfl
   go_wp2_with fail
   clear hcb
   obtain ⟨ks1, hks⟩ : ∃ z, z = keys1 ++ [x1] := ⟨_, rfl⟩
   have HKS1 := Aside0.mk hks
   clear hks
   have hNd := Aside0.mk HN.out.drew
   clear HN
   refine seq_start spec_ReadNode.ok10_0 (S := fun w' => w'.cell? ⟨w1.heap.size + 1, 0, none⟩ = some (.bool true) ∧ w'.cell? ⟨w1.heap.size + 1, 1, none⟩ = some (.slice A1 keys1.length c1) ∧ w'.cell? ⟨w1.heap.size + 1, 2, none⟩ = some (.slice A2 vals1.length c2) ∧ w'.cell? ⟨w1.heap.size + 1, 3, none⟩ = some (.slice A3 kids1.length c3)) (by kernel_rfl) (fun _ _ _ _ h => h) ⟨(blk_cell hNd.out.bN 0).trans rfl, (blk_cell hNd.out.bN 1).trans rfl, (blk_cell hNd.out.bN 2).trans rfl, (blk_cell hNd.out.bN 3).trans rfl⟩ (fun hHeld => ?_)
   generalize wr.drew = wd at hNd hHeld ⊢
   iterate 2 (refine seq_p (v := ?_) (a' := ?_) rfl rfl (Or.inl ⟨by rfl, ?_⟩) ?_ ?_; rotate_left; (· intro w'; go_simp; with_reducible rfl); rotate_left; (· show Act.put _ (some _) _ = _; simp only [Act.put, List.setIfInBounds_toArray, List.set_cons_zero, List.set_cons_succ, i64_w, i32_w]; try rfl))
   (refine seq_t (v := ?_) (a' := ?_) rfl rfl (Or.inl ⟨by rfl, ?_⟩) ?_ ?_; rotate_left; (· rintro w' ⟨s0, s1, s2, s3⟩; go_simp; with_reducible rfl); rotate_left; (· show Act.put _ (some _) _ = _; simp only [Act.put, List.setIfInBounds_toArray, List.set_cons_zero, List.set_cons_succ, i64_w, i32_w]; try rfl))
   refine seq_call rfl rfl Try.func93 (by kernel_rfl) rfl #[.pointer (some ⟨w1.heap.size, 0, none⟩)] (by rfl) rfl (by (try simp only [List.map_toArray, List.map_cons, List.map_nil]); first | done | rfl) ?_
   with_reducible refine (spec_text_rd HX.out hs hNd.out.bR hNd.out.hR hNd.out.bel).mono ?_
   rintro e wc ⟨rfl, hIc, hbc, hkc⟩
   have hNc := Aside0.mk (hNd.out.read (by decide) (by decide) (by decide) hIc hbc hkc)
   clear hNd hIc hbc hkc
   refine ⟨_, rfl, ⟨(blk_cell hNc.out.bN 0).trans rfl, (blk_cell hNc.out.bN 1).trans rfl, (blk_cell hNc.out.bN 2).trans rfl, (blk_cell hNc.out.bN 3).trans rfl⟩, (fun hHeld => ?_)⟩
   refine seq_norm (a' := ?_) ?_ ?_; rotate_left; (· show Act.put _ (some 53) _ = _; simp only [Act.put, List.setIfInBounds_toArray, List.set_cons_zero, List.set_cons_succ, i64_w, i32_w]; try rfl)
   refine seq_e rfl rfl (fun K hK => ?_)
   refine value_ (w1 := ?_) (v := ?_) (by rfl) rfl ?_ ?_
   rotate_left 2
   ·go_simp
    constructor
    ·rfl
    ·rfl
   refine hK.out _ _ ⟨(blk_cell (blk_alloc hNc.out.bN _) 0).trans rfl, (blk_cell (blk_alloc hNc.out.bN _) 1).trans rfl, (blk_cell (blk_alloc hNc.out.bN _) 2).trans rfl, (blk_cell (blk_alloc hNc.out.bN _) 3).trans rfl⟩ (fun hHeld => ?_)
   clear hK K
   refine seq_norm (a' := ?_) ?_ ?_; rotate_left; (· show Act.put _ (some 54) _ = _; simp only [Act.put, List.setIfInBounds_toArray, List.set_cons_zero, List.set_cons_succ, i64_w, i32_w]; try rfl)
   refine seq_e rfl rfl (fun K hK => ?_)
   refine Kd.R_append_step Kd.string (w0 := (w.alloc (.cells #[.bool false, .slice none 0 0, .slice none 0 0, .slice none 0 0] 68))) ((w.alloc (.cells #[.bool false, .slice none 0 0, .slice none 0 0, .slice none 0 0] 68))).heap.size (by rfl) (.tmp 51) (.tmp 54) 22 9 (.string ⟨#[]⟩) 16 rfl Try.underlying22 info9 rfl (by decide) (by omega) (.slice A1 keys1.length c1) keys1 x1 [.string x1] (fun _ => True) (fun _ => False) rfl rfl ?aP (fun _ hk => hk.elim) ?aF ?aO ?aB ?aS ?aL ?_
   (case aP => exact rfl)
   (case aF => exact (fun _ _ => trivial))
   (case aO => exact hNc.out.rk)
   (case aB => exact hNc.out.bel)
   (case aS => exact hNc.out.bel.size)
   (case aL => have := HLEN.out; omega)
   intro va wa ho hb hg hat
   have bNa := Aside0.mk (blk_grown hNc.out.bN hg (Kd.R_ne hNc.out.rk hNc.out.bN (by decide)))
   rw [← HKS1.out] at ho
   obtain ⟨Ao1, co1, eo⟩ := Kd.R_slice ho
   subst eo
   have hNs := Aside0.mk (hNc.out.pushKey (by decide) (by decide) ho hb hg hat)
   clear ho hb hg hat
   refine hK.out _ _ ⟨(blk_cell bNa.out 0).trans rfl, (blk_cell bNa.out 1).trans rfl, (blk_cell bNa.out 2).trans rfl, (blk_cell bNa.out 3).trans rfl⟩ (fun hHeld => ?_)
   clear hK K
   refine seq_norm (a' := ?_) ?_ ?_; rotate_left; (· show Act.put _ (some 55) _ = _; simp only [Act.put, List.setIfInBounds_toArray, List.set_cons_zero, List.set_cons_succ, i64_w, i32_w]; try rfl)
   (refine seq_p (v := ?_) (a' := ?_) rfl rfl (Or.inl ⟨by rfl, ?_⟩) ?_ ?_; rotate_left; (· intro w'; go_simp; with_reducible rfl); rotate_left; (· show Act.put _ (some _) _ = _; simp only [Act.put, List.setIfInBounds_toArray, List.set_cons_zero, List.set_cons_succ, i64_w, i32_w]; try rfl))
   refine seq_l rfl rfl (fun K hK => ?_)
   have hs1 : wa.cell? ⟨w1.heap.size + 1, 1, none⟩ = some (.slice A1 keys1.length c1) := (blk_cell bNa.out 1).trans rfl
   have hf1 := blk_frozen bNa.out 1
   refine skip_ (w1 := ?_) (by rfl) rfl ?_ ?_
   rotate_left
   ·go_simp
    rfl
   refine hK.out _ _ ?_
   clear hK K
   refine seq_done ?_
   clear hNc bNa hs1 hf1 hHeld
   generalize wa.setCell ⟨w1.heap.size + 1, 1, none⟩ _ = w6 at hNs ⊢
   have HN2 := Aside0.mk hNs.out
   clear hNs
   clear HX HLEN
   have hcl : w6.cell? ⟨w1.heap.size + 1, 0, none⟩ = some (.bool true) := (blk_cell HN2.out.bN 0).trans rfl
   obtain ⟨x2, a3, b3, hx⟩ : ∃ x2 a3 b3, rText body a2 b2 = (x2, a3, b3) := ⟨_, _, _, rfl⟩
   have HX := Aside0.mk hx
   have HX2 := Aside0.mk hx
   clear hx
   go_wp2_with fail
   obtain ⟨ks2, hks⟩ : ∃ z, z = vals1 ++ [x2] := ⟨_, rfl⟩
   have HKS2 := Aside0.mk hks
   clear hks
   have hNd := Aside0.mk HN2.out.drew
   clear HN2
   refine seq_start spec_ReadNode.ok12_1 (S := fun w' => w'.cell? ⟨w1.heap.size + 1, 0, none⟩ = some (.bool true) ∧ w'.cell? ⟨w1.heap.size + 1, 1, none⟩ = some (.slice Ao1 ks1.length co1) ∧ w'.cell? ⟨w1.heap.size + 1, 2, none⟩ = some (.slice A2 vals1.length c2) ∧ w'.cell? ⟨w1.heap.size + 1, 3, none⟩ = some (.slice A3 kids1.length c3)) (by kernel_rfl) (fun _ _ _ _ h => h) ⟨(blk_cell hNd.out.bN 0).trans rfl, (blk_cell hNd.out.bN 1).trans rfl, (blk_cell hNd.out.bN 2).trans rfl, (blk_cell hNd.out.bN 3).trans rfl⟩ (fun hHeld => ?_)
   generalize w6.drew = wd at hNd hHeld ⊢
   iterate 2 (refine seq_p (v := ?_) (a' := ?_) rfl rfl (Or.inl ⟨by rfl, ?_⟩) ?_ ?_; rotate_left; (· intro w'; go_simp; with_reducible rfl); rotate_left; (· show Act.put _ (some _) _ = _; simp only [Act.put, List.setIfInBounds_toArray, List.set_cons_zero, List.set_cons_succ, i64_w, i32_w]; try rfl))
   (refine seq_t (v := ?_) (a' := ?_) rfl rfl (Or.inl ⟨by rfl, ?_⟩) ?_ ?_; rotate_left; (· rintro w' ⟨s0, s1, s2, s3⟩; go_simp; with_reducible rfl); rotate_left; (· show Act.put _ (some _) _ = _; simp only [Act.put, List.setIfInBounds_toArray, List.set_cons_zero, List.set_cons_succ, i64_w, i32_w]; try rfl))
   refine seq_call rfl rfl Try.func93 (by kernel_rfl) rfl #[.pointer (some ⟨w1.heap.size, 0, none⟩)] (by rfl) rfl (by (try simp only [List.map_toArray, List.map_cons, List.map_nil]); first | done | rfl) ?_
   with_reducible refine (spec_text_rd HX.out hs hNd.out.bR hNd.out.hR hNd.out.bel).mono ?_
   rintro e wc ⟨rfl, hIc, hbc, hkc⟩
   have hNc := Aside0.mk (hNd.out.read (by decide) (by decide) (by decide) hIc hbc hkc)
   clear hNd hIc hbc hkc
   refine ⟨_, rfl, ⟨(blk_cell hNc.out.bN 0).trans rfl, (blk_cell hNc.out.bN 1).trans rfl, (blk_cell hNc.out.bN 2).trans rfl, (blk_cell hNc.out.bN 3).trans rfl⟩, (fun hHeld => ?_)⟩
   refine seq_norm (a' := ?_) ?_ ?_; rotate_left; (· show Act.put _ (some 62) _ = _; simp only [Act.put, List.setIfInBounds_toArray, List.set_cons_zero, List.set_cons_succ, i64_w, i32_w]; try rfl)
   refine seq_e rfl rfl (fun K hK => ?_)
   refine value_ (w1 := ?_) (v := ?_) (by rfl) rfl ?_ ?_
   rotate_left 2
   ·go_simp
    constructor
    ·rfl
    ·rfl
   refine hK.out _ _ ⟨(blk_cell (blk_alloc hNc.out.bN _) 0).trans rfl, (blk_cell (blk_alloc hNc.out.bN _) 1).trans rfl, (blk_cell (blk_alloc hNc.out.bN _) 2).trans rfl, (blk_cell (blk_alloc hNc.out.bN _) 3).trans rfl⟩ (fun hHeld => ?_)
   clear hK K
   refine seq_norm (a' := ?_) ?_ ?_; rotate_left; (· show Act.put _ (some 63) _ = _; simp only [Act.put, List.setIfInBounds_toArray, List.set_cons_zero, List.set_cons_succ, i64_w, i32_w]; try rfl)
   refine seq_e rfl rfl (fun K hK => ?_)
   refine Kd.R_append_step Kd.string (w0 := (w.alloc (.cells #[.bool false, .slice none 0 0, .slice none 0 0, .slice none 0 0] 68))) ((w.alloc (.cells #[.bool false, .slice none 0 0, .slice none 0 0, .slice none 0 0] 68))).heap.size (by rfl) (.tmp 60) (.tmp 63) 22 9 (.string ⟨#[]⟩) 16 rfl Try.underlying22 info9 rfl (by decide) (by omega) (.slice A2 vals1.length c2) vals1 x2 [.string x2] (fun _ => True) (fun _ => False) rfl rfl ?aP (fun _ hk => hk.elim) ?aF ?aO ?aB ?aS ?aL ?_
   (case aP => exact rfl)
   (case aF => exact (fun _ _ => trivial))
   (case aO => exact hNc.out.rv)
   (case aB => exact hNc.out.bel)
   (case aS => exact hNc.out.bel.size)
   (case aL => have := HLEV.out; omega)
   intro va wa ho hb hg hat
   have bNa := Aside0.mk (blk_grown hNc.out.bN hg (Kd.R_ne hNc.out.rv hNc.out.bN (by decide)))
   rw [← HKS2.out] at ho
   obtain ⟨Ao2, co2, eo⟩ := Kd.R_slice ho
   subst eo
   have hNs := Aside0.mk (hNc.out.pushVal (by decide) (by decide) ho hb hg hat)
   clear ho hb hg hat
   refine hK.out _ _ ⟨(blk_cell bNa.out 0).trans rfl, (blk_cell bNa.out 1).trans rfl, (blk_cell bNa.out 2).trans rfl, (blk_cell bNa.out 3).trans rfl⟩ (fun hHeld => ?_)
   clear hK K
   refine seq_norm (a' := ?_) ?_ ?_; rotate_left; (· show Act.put _ (some 64) _ = _; simp only [Act.put, List.setIfInBounds_toArray, List.set_cons_zero, List.set_cons_succ, i64_w, i32_w]; try rfl)
   (refine seq_p (v := ?_) (a' := ?_) rfl rfl (Or.inl ⟨by rfl, ?_⟩) ?_ ?_; rotate_left; (· intro w'; go_simp; with_reducible rfl); rotate_left; (· show Act.put _ (some _) _ = _; simp only [Act.put, List.setIfInBounds_toArray, List.set_cons_zero, List.set_cons_succ, i64_w, i32_w]; try rfl))
   refine seq_l rfl rfl (fun K hK => ?_)
   have hs1 : wa.cell? ⟨w1.heap.size + 1, 2, none⟩ = some (.slice A2 vals1.length c2) := (blk_cell bNa.out 2).trans rfl
   have hf1 := blk_frozen bNa.out 2
   refine skip_ (w1 := ?_) (by rfl) rfl ?_ ?_
   rotate_left
   ·go_simp
    rfl
   refine hK.out _ _ ?_
   clear hK K
   refine seq_done ?_
   clear hNc bNa hs1 hf1 hHeld
   generalize wa.setCell ⟨w1.heap.size + 1, 2, none⟩ _ = w7 at hNs ⊢
   have HN3 := Aside0.mk hNs.out
   clear hNs
   clear HX
   go_wp2
   have hw : wrap64 ((kk : Int) + 1) = ((kk + 1 : Nat) : Int) := by unfold wrap64; omega
   have hfin : (nIter true body 1000000000 ⟨at0, bad0, [], [], []⟩ (kk + 1)) = ⟨a3, b3, ks1, ks2, kids1⟩ := by rw [HSTEP.out]; simp [nStep, HX1.out, HX2.out, HKS1.out, HKS2.out]
   have HW := Aside0.mk hw
   have HF := Aside0.mk hfin
   clear hw hfin
   go_roundg (J - (kk + 1))
   case measure => omega
   case rel => exact ⟨kk + 1, Ao1, co1, Ao2, co2, A3, c3, by omega, by omega, by first | rfl | exact congrArg (Value.int .i64) HW.out, by rw [HF.out]; exact HN3⟩
  ·have : kk = J := by omega
   subst this
   rw [HST.out] at HN
   simp only at HN
   have hr0 : wr.cell? ⟨w1.heap.size, 2, none⟩ = some (.bool bad) := (blk_cell HN.out.bR 2).trans rfl
   have hn0 : wr.cell? ⟨w1.heap.size + 1, 0, none⟩ = some (.bool true) := (blk_cell HN.out.bN 0).trans rfl
   have hn1 : wr.cell? ⟨w1.heap.size + 1, 1, none⟩ = some (.slice A1 keys.length c1) := (blk_cell HN.out.bN 1).trans rfl
   have hn2 : wr.cell? ⟨w1.heap.size + 1, 2, none⟩ = some (.slice A2 vals.length c2) := (blk_cell HN.out.bN 2).trans rfl
   have hn3 : wr.cell? ⟨w1.heap.size + 1, 3, none⟩ = some (.slice A3 kids.length c3) := (blk_cell HN.out.bN 3).trans rfl
   have hbo := Aside0.mk (HN.out.bel.block w.heap.size (by simp))
   have BO := Aside0.mk (hbo.out.trans (blk_new w _))
   clear hbo
   have hlN := blk_lt HN.out.bN
   have hlR := blk_lt HN.out.bR
   have hlo := blk_lt BO.out
   by_cases q1 : kk = kn
   ·have q2 : decide ((kk : Int) < (kn : Int)) = false := decide_eq_false (by omega)
    have q3 : decide (kk < kn) = false := decide_eq_false (by omega)
    clear q1 hJ1 hJ2
    cases hbad : bad with
    | true =>
     subst hbad
     rcases HRES.out with ⟨e1, e2, e3, e4, e5⟩ | ⟨e1, e4, e5⟩
     ·cases e1
     ·subst e4 e5
      clear e1
      go_wp2_with fail
      ((with_reducible refine (spec_NodeText.calls k2 true A1 c1 keys A2 c2 vals A3 c3 kids back right _ (R_seen HN.out.rk).2 (R_seen HN.out.rk).1 (R_seen HN.out.rv).2 (R_seen HN.out.rv).1 (R_seen HN.out.ri).2 (R_seen HN.out.ri).1 HNT.out).mono ?_); rintro e w5 ⟨rfl, hb5⟩)
      obtain ⟨hc5, hf5⟩ := bcell hb5
      have BO5 := Aside0.mk (blk_below BO.out hb5)
      have HN5 := Aside0.mk (HN.out.below hb5)
      clear hb5
      have hob0 : wr.cell? ⟨w.heap.size, 0, none⟩ = some (.bool false) := (blk_cell BO.out 0).trans rfl
      have hob1 : wr.cell? ⟨w.heap.size, 1, none⟩ = some (.slice none 0 0) := (blk_cell BO.out 1).trans rfl
      have hob2 : wr.cell? ⟨w.heap.size, 2, none⟩ = some (.slice none 0 0) := (blk_cell BO.out 2).trans rfl
      have hob3 : wr.cell? ⟨w.heap.size, 3, none⟩ = some (.slice none 0 0) := (blk_cell BO.out 3).trans rfl
      have hfo := blk_frozen BO.out
      go_wp2
      have B1 := blk_put BO5.out 0 (.bool false) rfl
      have B2 := blk_put B1 1 (.slice none 0 0) rfl
      have B3 := blk_put B2 2 (.slice none 0 0) rfl
      have B4 := blk_put B3 3 (.slice none 0 0) rfl
      refine bodyPost_ret (results_ct rfl _ _ w.heap.size 68 #[.bool false, .slice none 0 0, .slice none 0 0, .slice none 0 0] (0, 0) _ rfl B4 Try.underlying68 rfl (by kernel_rfl)) rfl ?_
      exact node_post (n := z68) (Kd.R_nil _ _ _ _ _) (Kd.R_nil _ _ _ _ _) (Kd.R_nil _ _ _ _ _) (four_below w.heap.size (base_below HN5.out.bel) (Nat.le_refl _))
    | false =>
     subst hbad
     rcases HRES.out with ⟨e1, e2, e3, e4, e5⟩ | ⟨e1, e4, e5⟩
     ·subst e2 e4 e5
      have hq1 : (back.toList == t.toList) = true := by rw [e3]; simp
      have hq2 : (back.toList != t.toList) = false := by rw [e3]; simp
      have hq3 : (!(back.toList == t.toList)) = false := by rw [hq1]; rfl
      have HE := Aside0.mk e3
      clear e3 e1
      go_wp2_with fail
      ((with_reducible refine (spec_NodeText.calls k2 true A1 c1 keys A2 c2 vals A3 c3 kids back true _ (R_seen HN.out.rk).2 (R_seen HN.out.rk).1 (R_seen HN.out.rv).2 (R_seen HN.out.rv).1 (R_seen HN.out.ri).2 (R_seen HN.out.ri).1 HNT.out).mono ?_); rintro e w5 ⟨rfl, hb5⟩)
      obtain ⟨hc5, hf5⟩ := bcell hb5
      have BO5 := Aside0.mk (blk_below BO.out hb5)
      have HN5 := Aside0.mk (HN.out.below hb5)
      clear hb5
      have hob0 : wr.cell? ⟨w.heap.size, 0, none⟩ = some (.bool false) := (blk_cell BO.out 0).trans rfl
      have hob1 : wr.cell? ⟨w.heap.size, 1, none⟩ = some (.slice none 0 0) := (blk_cell BO.out 1).trans rfl
      have hob2 : wr.cell? ⟨w.heap.size, 2, none⟩ = some (.slice none 0 0) := (blk_cell BO.out 2).trans rfl
      have hob3 : wr.cell? ⟨w.heap.size, 3, none⟩ = some (.slice none 0 0) := (blk_cell BO.out 3).trans rfl
      have hfo := blk_frozen BO.out
      go_wp2
      have B1 := blk_put BO5.out 0 (.bool true) rfl
      have B2 := blk_put B1 1 (.slice A1 keys.length c1) rfl
      have B3 := blk_put B2 2 (.slice A2 vals.length c2) rfl
      have B4 := blk_put B3 3 (.slice A3 kids.length c3) rfl
      refine bodyPost_ret (results_ct rfl _ _ w.heap.size 68 #[.bool true, .slice A1 keys.length c1, .slice A2 vals.length c2, .slice A3 kids.length c3] (0, 0) _ rfl B4 Try.underlying68 rfl (by kernel_rfl)) rfl ?_
      exact node_post (n := ⟨true, keys, vals, kids⟩) (Kd.R_lower (four_set HN5.out.rk BO5.out B1 B2 B3 (by decide)) (by simp)) (Kd.R_lower (four_set HN5.out.rv BO5.out B1 B2 B3 (by decide)) (by simp)) (Kd.R_lower (four_set HN5.out.ri BO5.out B1 B2 B3 (by decide)) (by simp)) (four_below w.heap.size (base_below HN5.out.bel) (Nat.le_refl _))
     ·subst e4 e5
      cases hright : right with
      | false =>
       subst hright
       clear e1
       go_wp2_with fail
       ((with_reducible refine (spec_NodeText.calls k2 true A1 c1 keys A2 c2 vals A3 c3 kids back false _ (R_seen HN.out.rk).2 (R_seen HN.out.rk).1 (R_seen HN.out.rv).2 (R_seen HN.out.rv).1 (R_seen HN.out.ri).2 (R_seen HN.out.ri).1 HNT.out).mono ?_); rintro e w5 ⟨rfl, hb5⟩)
       obtain ⟨hc5, hf5⟩ := bcell hb5
       have BO5 := Aside0.mk (blk_below BO.out hb5)
       have HN5 := Aside0.mk (HN.out.below hb5)
       clear hb5
       have hob0 : wr.cell? ⟨w.heap.size, 0, none⟩ = some (.bool false) := (blk_cell BO.out 0).trans rfl
       have hob1 : wr.cell? ⟨w.heap.size, 1, none⟩ = some (.slice none 0 0) := (blk_cell BO.out 1).trans rfl
       have hob2 : wr.cell? ⟨w.heap.size, 2, none⟩ = some (.slice none 0 0) := (blk_cell BO.out 2).trans rfl
       have hob3 : wr.cell? ⟨w.heap.size, 3, none⟩ = some (.slice none 0 0) := (blk_cell BO.out 3).trans rfl
       have hfo := blk_frozen BO.out
       go_wp2
       have B1 := blk_put BO5.out 0 (.bool false) rfl
       have B2 := blk_put B1 1 (.slice none 0 0) rfl
       have B3 := blk_put B2 2 (.slice none 0 0) rfl
       have B4 := blk_put B3 3 (.slice none 0 0) rfl
       refine bodyPost_ret (results_ct rfl _ _ w.heap.size 68 #[.bool false, .slice none 0 0, .slice none 0 0, .slice none 0 0] (0, 0) _ rfl B4 Try.underlying68 rfl (by kernel_rfl)) rfl ?_
       exact node_post (n := z68) (Kd.R_nil _ _ _ _ _) (Kd.R_nil _ _ _ _ _) (Kd.R_nil _ _ _ _ _) (four_below w.heap.size (base_below HN5.out.bel) (Nat.le_refl _))
      | true =>
       subst hright
       have e3 : ¬ back.toList = t.toList := by
        rcases e1 with e | e | e
        ·cases e
        ·cases e
        ·exact e
       have hq1 : (back.toList == t.toList) = false := by simpa using e3
       have hq2 : (back.toList != t.toList) = true := by simpa using e3
       have hq3 : (!(back.toList == t.toList)) = true := by rw [hq1]; rfl
       have HE := Aside0.mk e3
       clear e3 e1
       go_wp2_with fail
       ((with_reducible refine (spec_NodeText.calls k2 true A1 c1 keys A2 c2 vals A3 c3 kids back true _ (R_seen HN.out.rk).2 (R_seen HN.out.rk).1 (R_seen HN.out.rv).2 (R_seen HN.out.rv).1 (R_seen HN.out.ri).2 (R_seen HN.out.ri).1 HNT.out).mono ?_); rintro e w5 ⟨rfl, hb5⟩)
       obtain ⟨hc5, hf5⟩ := bcell hb5
       have BO5 := Aside0.mk (blk_below BO.out hb5)
       have HN5 := Aside0.mk (HN.out.below hb5)
       clear hb5
       have hob0 : wr.cell? ⟨w.heap.size, 0, none⟩ = some (.bool false) := (blk_cell BO.out 0).trans rfl
       have hob1 : wr.cell? ⟨w.heap.size, 1, none⟩ = some (.slice none 0 0) := (blk_cell BO.out 1).trans rfl
       have hob2 : wr.cell? ⟨w.heap.size, 2, none⟩ = some (.slice none 0 0) := (blk_cell BO.out 2).trans rfl
       have hob3 : wr.cell? ⟨w.heap.size, 3, none⟩ = some (.slice none 0 0) := (blk_cell BO.out 3).trans rfl
       have hfo := blk_frozen BO.out
       go_wp2
       have B1 := blk_put BO5.out 0 (.bool false) rfl
       have B2 := blk_put B1 1 (.slice none 0 0) rfl
       have B3 := blk_put B2 2 (.slice none 0 0) rfl
       have B4 := blk_put B3 3 (.slice none 0 0) rfl
       refine bodyPost_ret (results_ct rfl _ _ w.heap.size 68 #[.bool false, .slice none 0 0, .slice none 0 0, .slice none 0 0] (0, 0) _ rfl B4 Try.underlying68 rfl (by kernel_rfl)) rfl ?_
       exact node_post (n := z68) (Kd.R_nil _ _ _ _ _) (Kd.R_nil _ _ _ _ _) (Kd.R_nil _ _ _ _ _) (four_below w.heap.size (base_below HN5.out.bel) (Nat.le_refl _))
   ·have q2 : decide ((kk : Int) < (kn : Int)) = true := decide_eq_true (by omega)
    have q3 : decide (kk < kn) = true := decide_eq_true (by omega)
    by_cases q4 : kk = 10
    ·have q5 : decide ((kk : Int) < 10) = false := decide_eq_false (by omega)
     have q6 : decide (kk < 10) = false := decide_eq_false (by omega)
     clear q1 q4 hJ1 hJ2
     cases hbad : bad with
     | true =>
      subst hbad
      rcases HRES.out with ⟨e1, e2, e3, e4, e5⟩ | ⟨e1, e4, e5⟩
      ·cases e1
      ·subst e4 e5
       clear e1
       go_wp2_with fail
       ((with_reducible refine (spec_NodeText.calls k2 true A1 c1 keys A2 c2 vals A3 c3 kids back right _ (R_seen HN.out.rk).2 (R_seen HN.out.rk).1 (R_seen HN.out.rv).2 (R_seen HN.out.rv).1 (R_seen HN.out.ri).2 (R_seen HN.out.ri).1 HNT.out).mono ?_); rintro e w5 ⟨rfl, hb5⟩)
       obtain ⟨hc5, hf5⟩ := bcell hb5
       have BO5 := Aside0.mk (blk_below BO.out hb5)
       have HN5 := Aside0.mk (HN.out.below hb5)
       clear hb5
       have hob0 : wr.cell? ⟨w.heap.size, 0, none⟩ = some (.bool false) := (blk_cell BO.out 0).trans rfl
       have hob1 : wr.cell? ⟨w.heap.size, 1, none⟩ = some (.slice none 0 0) := (blk_cell BO.out 1).trans rfl
       have hob2 : wr.cell? ⟨w.heap.size, 2, none⟩ = some (.slice none 0 0) := (blk_cell BO.out 2).trans rfl
       have hob3 : wr.cell? ⟨w.heap.size, 3, none⟩ = some (.slice none 0 0) := (blk_cell BO.out 3).trans rfl
       have hfo := blk_frozen BO.out
       go_wp2
       have B1 := blk_put BO5.out 0 (.bool false) rfl
       have B2 := blk_put B1 1 (.slice none 0 0) rfl
       have B3 := blk_put B2 2 (.slice none 0 0) rfl
       have B4 := blk_put B3 3 (.slice none 0 0) rfl
       refine bodyPost_ret (results_ct rfl _ _ w.heap.size 68 #[.bool false, .slice none 0 0, .slice none 0 0, .slice none 0 0] (0, 0) _ rfl B4 Try.underlying68 rfl (by kernel_rfl)) rfl ?_
       exact node_post (n := z68) (Kd.R_nil _ _ _ _ _) (Kd.R_nil _ _ _ _ _) (Kd.R_nil _ _ _ _ _) (four_below w.heap.size (base_below HN5.out.bel) (Nat.le_refl _))
     | false =>
      subst hbad
      rcases HRES.out with ⟨e1, e2, e3, e4, e5⟩ | ⟨e1, e4, e5⟩
      ·subst e2 e4 e5
       have hq1 : (back.toList == t.toList) = true := by rw [e3]; simp
       have hq2 : (back.toList != t.toList) = false := by rw [e3]; simp
       have hq3 : (!(back.toList == t.toList)) = false := by rw [hq1]; rfl
       have HE := Aside0.mk e3
       clear e3 e1
       go_wp2_with fail
       ((with_reducible refine (spec_NodeText.calls k2 true A1 c1 keys A2 c2 vals A3 c3 kids back true _ (R_seen HN.out.rk).2 (R_seen HN.out.rk).1 (R_seen HN.out.rv).2 (R_seen HN.out.rv).1 (R_seen HN.out.ri).2 (R_seen HN.out.ri).1 HNT.out).mono ?_); rintro e w5 ⟨rfl, hb5⟩)
       obtain ⟨hc5, hf5⟩ := bcell hb5
       have BO5 := Aside0.mk (blk_below BO.out hb5)
       have HN5 := Aside0.mk (HN.out.below hb5)
       clear hb5
       have hob0 : wr.cell? ⟨w.heap.size, 0, none⟩ = some (.bool false) := (blk_cell BO.out 0).trans rfl
       have hob1 : wr.cell? ⟨w.heap.size, 1, none⟩ = some (.slice none 0 0) := (blk_cell BO.out 1).trans rfl
       have hob2 : wr.cell? ⟨w.heap.size, 2, none⟩ = some (.slice none 0 0) := (blk_cell BO.out 2).trans rfl
       have hob3 : wr.cell? ⟨w.heap.size, 3, none⟩ = some (.slice none 0 0) := (blk_cell BO.out 3).trans rfl
       have hfo := blk_frozen BO.out
       go_wp2
       have B1 := blk_put BO5.out 0 (.bool true) rfl
       have B2 := blk_put B1 1 (.slice A1 keys.length c1) rfl
       have B3 := blk_put B2 2 (.slice A2 vals.length c2) rfl
       have B4 := blk_put B3 3 (.slice A3 kids.length c3) rfl
       refine bodyPost_ret (results_ct rfl _ _ w.heap.size 68 #[.bool true, .slice A1 keys.length c1, .slice A2 vals.length c2, .slice A3 kids.length c3] (0, 0) _ rfl B4 Try.underlying68 rfl (by kernel_rfl)) rfl ?_
       exact node_post (n := ⟨true, keys, vals, kids⟩) (Kd.R_lower (four_set HN5.out.rk BO5.out B1 B2 B3 (by decide)) (by simp)) (Kd.R_lower (four_set HN5.out.rv BO5.out B1 B2 B3 (by decide)) (by simp)) (Kd.R_lower (four_set HN5.out.ri BO5.out B1 B2 B3 (by decide)) (by simp)) (four_below w.heap.size (base_below HN5.out.bel) (Nat.le_refl _))
      ·subst e4 e5
       cases hright : right with
       | false =>
        subst hright
        clear e1
        go_wp2_with fail
        ((with_reducible refine (spec_NodeText.calls k2 true A1 c1 keys A2 c2 vals A3 c3 kids back false _ (R_seen HN.out.rk).2 (R_seen HN.out.rk).1 (R_seen HN.out.rv).2 (R_seen HN.out.rv).1 (R_seen HN.out.ri).2 (R_seen HN.out.ri).1 HNT.out).mono ?_); rintro e w5 ⟨rfl, hb5⟩)
        obtain ⟨hc5, hf5⟩ := bcell hb5
        have BO5 := Aside0.mk (blk_below BO.out hb5)
        have HN5 := Aside0.mk (HN.out.below hb5)
        clear hb5
        have hob0 : wr.cell? ⟨w.heap.size, 0, none⟩ = some (.bool false) := (blk_cell BO.out 0).trans rfl
        have hob1 : wr.cell? ⟨w.heap.size, 1, none⟩ = some (.slice none 0 0) := (blk_cell BO.out 1).trans rfl
        have hob2 : wr.cell? ⟨w.heap.size, 2, none⟩ = some (.slice none 0 0) := (blk_cell BO.out 2).trans rfl
        have hob3 : wr.cell? ⟨w.heap.size, 3, none⟩ = some (.slice none 0 0) := (blk_cell BO.out 3).trans rfl
        have hfo := blk_frozen BO.out
        go_wp2
        have B1 := blk_put BO5.out 0 (.bool false) rfl
        have B2 := blk_put B1 1 (.slice none 0 0) rfl
        have B3 := blk_put B2 2 (.slice none 0 0) rfl
        have B4 := blk_put B3 3 (.slice none 0 0) rfl
        refine bodyPost_ret (results_ct rfl _ _ w.heap.size 68 #[.bool false, .slice none 0 0, .slice none 0 0, .slice none 0 0] (0, 0) _ rfl B4 Try.underlying68 rfl (by kernel_rfl)) rfl ?_
        exact node_post (n := z68) (Kd.R_nil _ _ _ _ _) (Kd.R_nil _ _ _ _ _) (Kd.R_nil _ _ _ _ _) (four_below w.heap.size (base_below HN5.out.bel) (Nat.le_refl _))
       | true =>
        subst hright
        have e3 : ¬ back.toList = t.toList := by
         rcases e1 with e | e | e
         ·cases e
         ·cases e
         ·exact e
        have hq1 : (back.toList == t.toList) = false := by simpa using e3
        have hq2 : (back.toList != t.toList) = true := by simpa using e3
        have hq3 : (!(back.toList == t.toList)) = true := by rw [hq1]; rfl
        have HE := Aside0.mk e3
        clear e3 e1
        go_wp2_with fail
        ((with_reducible refine (spec_NodeText.calls k2 true A1 c1 keys A2 c2 vals A3 c3 kids back true _ (R_seen HN.out.rk).2 (R_seen HN.out.rk).1 (R_seen HN.out.rv).2 (R_seen HN.out.rv).1 (R_seen HN.out.ri).2 (R_seen HN.out.ri).1 HNT.out).mono ?_); rintro e w5 ⟨rfl, hb5⟩)
        obtain ⟨hc5, hf5⟩ := bcell hb5
        have BO5 := Aside0.mk (blk_below BO.out hb5)
        have HN5 := Aside0.mk (HN.out.below hb5)
        clear hb5
        have hob0 : wr.cell? ⟨w.heap.size, 0, none⟩ = some (.bool false) := (blk_cell BO.out 0).trans rfl
        have hob1 : wr.cell? ⟨w.heap.size, 1, none⟩ = some (.slice none 0 0) := (blk_cell BO.out 1).trans rfl
        have hob2 : wr.cell? ⟨w.heap.size, 2, none⟩ = some (.slice none 0 0) := (blk_cell BO.out 2).trans rfl
        have hob3 : wr.cell? ⟨w.heap.size, 3, none⟩ = some (.slice none 0 0) := (blk_cell BO.out 3).trans rfl
        have hfo := blk_frozen BO.out
        go_wp2
        have B1 := blk_put BO5.out 0 (.bool false) rfl
        have B2 := blk_put B1 1 (.slice none 0 0) rfl
        have B3 := blk_put B2 2 (.slice none 0 0) rfl
        have B4 := blk_put B3 3 (.slice none 0 0) rfl
        refine bodyPost_ret (results_ct rfl _ _ w.heap.size 68 #[.bool false, .slice none 0 0, .slice none 0 0, .slice none 0 0] (0, 0) _ rfl B4 Try.underlying68 rfl (by kernel_rfl)) rfl ?_
        exact node_post (n := z68) (Kd.R_nil _ _ _ _ _) (Kd.R_nil _ _ _ _ _) (Kd.R_nil _ _ _ _ _) (four_below w.heap.size (base_below HN5.out.bel) (Nat.le_refl _))
    ·have q5 : decide ((kk : Int) < 10) = true := decide_eq_true (by omega)
     have q6 : decide (kk < 10) = true := decide_eq_true (by omega)
     have q7 : bad = true := by
      rcases HJ4.out with e | e | e
      ·exact absurd e q1
      ·exact absurd e q4
      ·exact e
     subst q7
     clear q1 q4 hJ1 hJ2
     rcases HRES.out with ⟨e1, e2, e3, e4, e5⟩ | ⟨e1, e4, e5⟩
     ·cases e1
     ·subst e4 e5
      clear e1
      go_wp2_with fail
      ((with_reducible refine (spec_NodeText.calls k2 true A1 c1 keys A2 c2 vals A3 c3 kids back right _ (R_seen HN.out.rk).2 (R_seen HN.out.rk).1 (R_seen HN.out.rv).2 (R_seen HN.out.rv).1 (R_seen HN.out.ri).2 (R_seen HN.out.ri).1 HNT.out).mono ?_); rintro e w5 ⟨rfl, hb5⟩)
      obtain ⟨hc5, hf5⟩ := bcell hb5
      have BO5 := Aside0.mk (blk_below BO.out hb5)
      have HN5 := Aside0.mk (HN.out.below hb5)
      clear hb5
      have hob0 : wr.cell? ⟨w.heap.size, 0, none⟩ = some (.bool false) := (blk_cell BO.out 0).trans rfl
      have hob1 : wr.cell? ⟨w.heap.size, 1, none⟩ = some (.slice none 0 0) := (blk_cell BO.out 1).trans rfl
      have hob2 : wr.cell? ⟨w.heap.size, 2, none⟩ = some (.slice none 0 0) := (blk_cell BO.out 2).trans rfl
      have hob3 : wr.cell? ⟨w.heap.size, 3, none⟩ = some (.slice none 0 0) := (blk_cell BO.out 3).trans rfl
      have hfo := blk_frozen BO.out
      go_wp2
      have B1 := blk_put BO5.out 0 (.bool false) rfl
      have B2 := blk_put B1 1 (.slice none 0 0) rfl
      have B3 := blk_put B2 2 (.slice none 0 0) rfl
      have B4 := blk_put B3 3 (.slice none 0 0) rfl
      refine bodyPost_ret (results_ct rfl _ _ w.heap.size 68 #[.bool false, .slice none 0 0, .slice none 0 0, .slice none 0 0] (0, 0) _ rfl B4 Try.underlying68 rfl (by kernel_rfl)) rfl ?_
      exact node_post (n := z68) (Kd.R_nil _ _ _ _ _) (Kd.R_nil _ _ _ _ _) (Kd.R_nil _ _ _ _ _) (four_below w.heap.size (base_below HN5.out.bel) (Nat.le_refl _))
theorem spec_node_branch (k k2 : Nat) (t body : ByteArray) (w : World) (hu : spec_Unsealed.f k t = some (body, true)) (hs : body.size ≤ 140737488351232) (h0 : 2 ≤ body.size) (b0 : Int) (hb0 : ∀ h : 0 < body.size, ((body[0]'h).toNat : Int) = b0) (hb1 : (b0 == 108) = false) (kn J : Nat) (at0 : Int) (bad0 : Bool) (hk : rNum body 1 false 1000000000 = ((kn : Int), at0, bad0)) (hkn : kn ≤ 1000000000) (hJ1 : J ≤ kn) (hJ2 : J ≤ 10) (hJ3 : ∀ j, j < J → (nIter false body 1000000000 ⟨at0, bad0, [], [], []⟩ j).bad = false) (at_ : Int) (bad : Bool) (keys vals : List ByteArray) (kids : List Int) (hJ4 : J = kn ∨ J = 10 ∨ bad = true) (hst : nIter false body 1000000000 ⟨at0, bad0, [], [], []⟩ J = ⟨at_, bad, keys, vals, kids⟩) (back : ByteArray) (right : Bool) (hnt : spec_NodeText.f k2 false keys vals kids = some (back, right)) (n : S68) (ok : Bool) (hres : (bad = false ∧ right = true ∧ back.toList = t.toList ∧ n = ⟨false, keys, vals, kids⟩ ∧ ok = true) ∨ ((bad = true ∨ right = false ∨ ¬ back.toList = t.toList) ∧ n = z68 ∧ ok = false)) :
  Calls Try.prog 35 #[.string t] w (NodePost w n ok) := by
 have HU := Aside0.mk hu
 have HK := Aside0.mk hk
 have HST := Aside0.mk hst
 have HRES := Aside0.mk hres
 have HJ3 := Aside0.mk hJ3
 have HJ4 := Aside0.mk hJ4
 have HNT := Aside0.mk hnt
 have HL0 : decide ((body.size : Int) < 2) = false := decide_eq_false (by omega)
 have HL1 : decide (body.size < 2) = false := decide_eq_false (by omega)
 have HL2 : 0 < body.size := by omega
 clear hu hk hst hres hJ3 hJ4 hnt
 go_enter Try.func35, Try.ntmps35
 go_wp2_with fail
 ((with_reducible refine (spec_Unsealed.calls k t body true _ HU.out).mono ?_); rintro e w1 ⟨rfl, hb1⟩)
 obtain ⟨hc1, hf1⟩ := bcell hb1
 have hz1 : w.heap.size < w1.heap.size := by have hh := hb1.size; (try simp at hh); omega
 have HB1 := Aside0.mk hb1
 clear hb1
 have HI := Aside0.mk (show NInv (w.alloc (.cells #[.bool false, .slice none 0 0, .slice none 0 0, .slice none 0 0] 68)) ((w1.alloc (.cells #[.string body, .int .i64 1, .bool false] 123)).alloc (.cells #[.bool false, .slice none 0 0, .slice none 0 0, .slice none 0 0] 68)) (w1.heap.size + 1) w1.heap.size 123 body false (.slice none 0 0) (.slice none 0 0) (.slice none 0 0) 1 false [] [] [] from
  ⟨by have z := blk_new (w1.alloc (.cells #[.string body, .int .i64 1, .bool false] 123)) (.cells #[.bool false, .slice none 0 0, .slice none 0 0, .slice none 0 0] 68); simpa using z, blk_alloc (blk_new w1 _) _, by simp; omega, by simp; omega, Kd.R_nil _ _ _ _ _, Kd.R_nil _ _ _ _ _, Kd.R_nil _ _ _ _ _, fun k hk => by simp [Value.ownBlock] at hk, below_alloc (below_alloc HB1.out _) _⟩)
 go_wp2_with fail
 ((with_reducible refine (spec_num_rd HK.out hs HI.out.bR HI.out.hR HI.out.bel).mono ?_); rintro e w2 ⟨rfl, hI2, hb2, hk2⟩)
 have HN0 := Aside0.mk (HI.out.read (by decide) (by decide) (by decide) hI2 hb2 hk2)
 clear HI hI2 hb2 hk2 hc1 hf1
 go_wp2_with fail
 go_loopg [9] J (fun gg s9 wr => ∃ (kk : Nat) (A1 : Option Addr) (c1 : Nat) (A2 : Option Addr) (c2 : Nat) (A3 : Option Addr) (c3 : Nat), kk ≤ J ∧ J - kk ≤ gg ∧ s9 = .int .i64 kk ∧ Aside0 (NInv (w.alloc (.cells #[.bool false, .slice none 0 0, .slice none 0 0, .slice none 0 0] 68)) wr (w1.heap.size + 1) w1.heap.size 123 body false (.slice A1 (nIter false body 1000000000 ⟨at0, bad0, [], [], []⟩ kk).keys.length c1) (.slice A2 (nIter false body 1000000000 ⟨at0, bad0, [], [], []⟩ kk).vals.length c2) (.slice A3 (nIter false body 1000000000 ⟨at0, bad0, [], [], []⟩ kk).kids.length c3) (nIter false body 1000000000 ⟨at0, bad0, [], [], []⟩ kk).at_ (nIter false body 1000000000 ⟨at0, bad0, [], [], []⟩ kk).bad (nIter false body 1000000000 ⟨at0, bad0, [], [], []⟩ kk).keys (nIter false body 1000000000 ⟨at0, bad0, [], [], []⟩ kk).vals (nIter false body 1000000000 ⟨at0, bad0, [], [], []⟩ kk).kids))
 case atStart => exact ⟨0, none, 0, none, 0, none, 0, Nat.zero_le _, by omega, rfl, HN0⟩
 case round =>
  clear HN0
  obtain ⟨kk, A1, c1, A2, c2, A3, c3, hkk, hg, rfl, HN⟩ := hrel
  by_cases hlt : kk < J
  ·have hlt1 : decide ((kk : Int) < (kn : Int)) = true := decide_eq_true (by omega)
   have hlt2 : decide (kk < kn) = true := decide_eq_true (by omega)
   have hlt3 : decide ((kk : Int) < 10) = true := decide_eq_true (by omega)
   have hlt4 : decide (kk < 10) = true := decide_eq_true (by omega)
   have HLEN0 := nIter_len false body 1000000000 ⟨at0, bad0, [], [], []⟩ rfl rfl rfl kk
   have HB0 := Aside0.mk (HJ3.out kk hlt)
   have HSTEP := Aside0.mk (show (nIter false body 1000000000 ⟨at0, bad0, [], [], []⟩ (kk + 1)) = nStep false body 1000000000 (nIter false body 1000000000 ⟨at0, bad0, [], [], []⟩ kk) from rfl)
   generalize hsk : (nIter false body 1000000000 ⟨at0, bad0, [], [], []⟩ kk) = sk at HN HLEN0 HSTEP HB0
   obtain ⟨a1, b1, keys1, vals1, kids1⟩ := sk
   clear hsk
   simp only at HN HLEN0
   obtain rfl : b1 = false := HB0.out
   obtain ⟨x1, a2, b2, hx⟩ : ∃ x1 a2 b2, rText body a1 false = (x1, a2, b2) := ⟨_, _, _, rfl⟩
   have HX := Aside0.mk hx
   have HX1 := Aside0.mk hx
   clear hx
   have HLEN := Aside0.mk (show keys1.length ≤ 10 by omega)
   have HLEV := Aside0.mk (show vals1.length ≤ 10 by omega)
   have HLEK := Aside0.mk (show kids1.length ≤ 10 by omega)
   clear HLEN0
   have hcb : wr.cell? ⟨w1.heap.size, 2, none⟩ = some (.bool false) := (blk_cell HN.out.bR 2).trans rfl
   go_wp2_with fail
   clear hcb
   obtain ⟨ks1, hks⟩ : ∃ z, z = keys1 ++ [x1] := ⟨_, rfl⟩
   have HKS1 := Aside0.mk hks
   clear hks
   have hNd := Aside0.mk HN.out.drew
   clear HN
   refine seq_start spec_ReadNode.ok10_0 (S := fun w' => w'.cell? ⟨w1.heap.size + 1, 0, none⟩ = some (.bool false) ∧ w'.cell? ⟨w1.heap.size + 1, 1, none⟩ = some (.slice A1 keys1.length c1) ∧ w'.cell? ⟨w1.heap.size + 1, 2, none⟩ = some (.slice A2 vals1.length c2) ∧ w'.cell? ⟨w1.heap.size + 1, 3, none⟩ = some (.slice A3 kids1.length c3)) (by kernel_rfl) (fun _ _ _ _ h => h) ⟨(blk_cell hNd.out.bN 0).trans rfl, (blk_cell hNd.out.bN 1).trans rfl, (blk_cell hNd.out.bN 2).trans rfl, (blk_cell hNd.out.bN 3).trans rfl⟩ (fun hHeld => ?_)
   generalize wr.drew = wd at hNd hHeld ⊢
   iterate 2 (refine seq_p (v := ?_) (a' := ?_) rfl rfl (Or.inl ⟨by rfl, ?_⟩) ?_ ?_; rotate_left; (· intro w'; go_simp; with_reducible rfl); rotate_left; (· show Act.put _ (some _) _ = _; simp only [Act.put, List.setIfInBounds_toArray, List.set_cons_zero, List.set_cons_succ, i64_w, i32_w]; try rfl))
   (refine seq_t (v := ?_) (a' := ?_) rfl rfl (Or.inl ⟨by rfl, ?_⟩) ?_ ?_; rotate_left; (· rintro w' ⟨s0, s1, s2, s3⟩; go_simp; with_reducible rfl); rotate_left; (· show Act.put _ (some _) _ = _; simp only [Act.put, List.setIfInBounds_toArray, List.set_cons_zero, List.set_cons_succ, i64_w, i32_w]; try rfl))
   refine seq_call rfl rfl Try.func93 (by kernel_rfl) rfl #[.pointer (some ⟨w1.heap.size, 0, none⟩)] (by rfl) rfl (by (try simp only [List.map_toArray, List.map_cons, List.map_nil]); first | done | rfl) ?_
   with_reducible refine (spec_text_rd HX.out hs hNd.out.bR hNd.out.hR hNd.out.bel).mono ?_
   rintro e wc ⟨rfl, hIc, hbc, hkc⟩
   have hNc := Aside0.mk (hNd.out.read (by decide) (by decide) (by decide) hIc hbc hkc)
   clear hNd hIc hbc hkc
   refine ⟨_, rfl, ⟨(blk_cell hNc.out.bN 0).trans rfl, (blk_cell hNc.out.bN 1).trans rfl, (blk_cell hNc.out.bN 2).trans rfl, (blk_cell hNc.out.bN 3).trans rfl⟩, (fun hHeld => ?_)⟩
   refine seq_norm (a' := ?_) ?_ ?_; rotate_left; (· show Act.put _ (some 53) _ = _; simp only [Act.put, List.setIfInBounds_toArray, List.set_cons_zero, List.set_cons_succ, i64_w, i32_w]; try rfl)
   refine seq_e rfl rfl (fun K hK => ?_)
   refine value_ (w1 := ?_) (v := ?_) (by rfl) rfl ?_ ?_
   rotate_left 2
   ·go_simp
    constructor
    ·rfl
    ·rfl
   refine hK.out _ _ ⟨(blk_cell (blk_alloc hNc.out.bN _) 0).trans rfl, (blk_cell (blk_alloc hNc.out.bN _) 1).trans rfl, (blk_cell (blk_alloc hNc.out.bN _) 2).trans rfl, (blk_cell (blk_alloc hNc.out.bN _) 3).trans rfl⟩ (fun hHeld => ?_)
   clear hK K
   refine seq_norm (a' := ?_) ?_ ?_; rotate_left; (· show Act.put _ (some 54) _ = _; simp only [Act.put, List.setIfInBounds_toArray, List.set_cons_zero, List.set_cons_succ, i64_w, i32_w]; try rfl)
   refine seq_e rfl rfl (fun K hK => ?_)
   refine Kd.R_append_step Kd.string (w0 := (w.alloc (.cells #[.bool false, .slice none 0 0, .slice none 0 0, .slice none 0 0] 68))) ((w.alloc (.cells #[.bool false, .slice none 0 0, .slice none 0 0, .slice none 0 0] 68))).heap.size (by rfl) (.tmp 51) (.tmp 54) 22 9 (.string ⟨#[]⟩) 16 rfl Try.underlying22 info9 rfl (by decide) (by omega) (.slice A1 keys1.length c1) keys1 x1 [.string x1] (fun _ => True) (fun _ => False) rfl rfl ?aP (fun _ hk => hk.elim) ?aF ?aO ?aB ?aS ?aL ?_
   (case aP => exact rfl)
   (case aF => exact (fun _ _ => trivial))
   (case aO => exact hNc.out.rk)
   (case aB => exact hNc.out.bel)
   (case aS => exact hNc.out.bel.size)
   (case aL => have := HLEN.out; omega)
   intro va wa ho hb hg hat
   have bNa := Aside0.mk (blk_grown hNc.out.bN hg (Kd.R_ne hNc.out.rk hNc.out.bN (by decide)))
   rw [← HKS1.out] at ho
   obtain ⟨Ao1, co1, eo⟩ := Kd.R_slice ho
   subst eo
   have hNs := Aside0.mk (hNc.out.pushKey (by decide) (by decide) ho hb hg hat)
   clear ho hb hg hat
   refine hK.out _ _ ⟨(blk_cell bNa.out 0).trans rfl, (blk_cell bNa.out 1).trans rfl, (blk_cell bNa.out 2).trans rfl, (blk_cell bNa.out 3).trans rfl⟩ (fun hHeld => ?_)
   clear hK K
   refine seq_norm (a' := ?_) ?_ ?_; rotate_left; (· show Act.put _ (some 55) _ = _; simp only [Act.put, List.setIfInBounds_toArray, List.set_cons_zero, List.set_cons_succ, i64_w, i32_w]; try rfl)
   (refine seq_p (v := ?_) (a' := ?_) rfl rfl (Or.inl ⟨by rfl, ?_⟩) ?_ ?_; rotate_left; (· intro w'; go_simp; with_reducible rfl); rotate_left; (· show Act.put _ (some _) _ = _; simp only [Act.put, List.setIfInBounds_toArray, List.set_cons_zero, List.set_cons_succ, i64_w, i32_w]; try rfl))
   refine seq_l rfl rfl (fun K hK => ?_)
   have hs1 : wa.cell? ⟨w1.heap.size + 1, 1, none⟩ = some (.slice A1 keys1.length c1) := (blk_cell bNa.out 1).trans rfl
   have hf1 := blk_frozen bNa.out 1
   refine skip_ (w1 := ?_) (by rfl) rfl ?_ ?_
   rotate_left
   ·go_simp
    rfl
   refine hK.out _ _ ?_
   clear hK K
   refine seq_done ?_
   clear hNc bNa hs1 hf1 hHeld
   generalize wa.setCell ⟨w1.heap.size + 1, 1, none⟩ _ = w6 at hNs ⊢
   have HN2 := Aside0.mk hNs.out
   clear hNs
   clear HX HLEN
   have hcl : w6.cell? ⟨w1.heap.size + 1, 0, none⟩ = some (.bool false) := (blk_cell HN2.out.bN 0).trans rfl
   obtain ⟨x2, a3, b3, hx⟩ : ∃ x2 a3 b3, rNum body a2 b2 1000000000 = (x2, a3, b3) := ⟨_, _, _, rfl⟩
   have HX := Aside0.mk hx
   have HX2 := Aside0.mk hx
   clear hx
   go_wp2_with fail
   obtain ⟨ks3, hks⟩ : ∃ z, z = kids1 ++ [x2] := ⟨_, rfl⟩
   have HKS3 := Aside0.mk hks
   clear hks
   have hNd := Aside0.mk HN2.out.drew
   clear HN2
   refine seq_start spec_ReadNode.ok13_2 (S := fun w' => w'.cell? ⟨w1.heap.size + 1, 0, none⟩ = some (.bool false) ∧ w'.cell? ⟨w1.heap.size + 1, 1, none⟩ = some (.slice Ao1 ks1.length co1) ∧ w'.cell? ⟨w1.heap.size + 1, 2, none⟩ = some (.slice A2 vals1.length c2) ∧ w'.cell? ⟨w1.heap.size + 1, 3, none⟩ = some (.slice A3 kids1.length c3)) (by kernel_rfl) (fun _ _ _ _ h => h) ⟨(blk_cell hNd.out.bN 0).trans rfl, (blk_cell hNd.out.bN 1).trans rfl, (blk_cell hNd.out.bN 2).trans rfl, (blk_cell hNd.out.bN 3).trans rfl⟩ (fun hHeld => ?_)
   generalize w6.drew = wd at hNd hHeld ⊢
   iterate 2 (refine seq_p (v := ?_) (a' := ?_) rfl rfl (Or.inl ⟨by rfl, ?_⟩) ?_ ?_; rotate_left; (· intro w'; go_simp; with_reducible rfl); rotate_left; (· show Act.put _ (some _) _ = _; simp only [Act.put, List.setIfInBounds_toArray, List.set_cons_zero, List.set_cons_succ, i64_w, i32_w]; try rfl))
   (refine seq_t (v := ?_) (a' := ?_) rfl rfl (Or.inl ⟨by rfl, ?_⟩) ?_ ?_; rotate_left; (· rintro w' ⟨s0, s1, s2, s3⟩; go_simp; with_reducible rfl); rotate_left; (· show Act.put _ (some _) _ = _; simp only [Act.put, List.setIfInBounds_toArray, List.set_cons_zero, List.set_cons_succ, i64_w, i32_w]; try rfl))
   refine seq_call rfl rfl Try.func82 (by kernel_rfl) rfl #[.pointer (some ⟨w1.heap.size, 0, none⟩)] (by rfl) rfl (by (try simp only [List.map_toArray, List.map_cons, List.map_nil]); first | done | rfl) ?_
   with_reducible refine (spec_num_rd HX.out hs hNd.out.bR hNd.out.hR hNd.out.bel).mono ?_
   rintro e wc ⟨rfl, hIc, hbc, hkc⟩
   have hNc := Aside0.mk (hNd.out.read (by decide) (by decide) (by decide) hIc hbc hkc)
   clear hNd hIc hbc hkc
   refine ⟨_, rfl, ⟨(blk_cell hNc.out.bN 0).trans rfl, (blk_cell hNc.out.bN 1).trans rfl, (blk_cell hNc.out.bN 2).trans rfl, (blk_cell hNc.out.bN 3).trans rfl⟩, (fun hHeld => ?_)⟩
   refine seq_norm (a' := ?_) ?_ ?_; rotate_left; (· show Act.put _ (some 69) _ = _; simp only [Act.put, List.setIfInBounds_toArray, List.set_cons_zero, List.set_cons_succ, i64_w, i32_w]; try rfl)
   refine seq_e rfl rfl (fun K hK => ?_)
   refine value_ (w1 := ?_) (v := ?_) (by rfl) rfl ?_ ?_
   rotate_left 2
   ·go_simp
    constructor
    ·rfl
    ·rfl
   refine hK.out _ _ ⟨(blk_cell (blk_alloc hNc.out.bN _) 0).trans rfl, (blk_cell (blk_alloc hNc.out.bN _) 1).trans rfl, (blk_cell (blk_alloc hNc.out.bN _) 2).trans rfl, (blk_cell (blk_alloc hNc.out.bN _) 3).trans rfl⟩ (fun hHeld => ?_)
   clear hK K
   refine seq_norm (a' := ?_) ?_ ?_; rotate_left; (· show Act.put _ (some 70) _ = _; simp only [Act.put, List.setIfInBounds_toArray, List.set_cons_zero, List.set_cons_succ, i64_w, i32_w]; try rfl)
   refine seq_e rfl rfl (fun K hK => ?_)
   refine Kd.R_append_step (Kd.int .i64) (w0 := (w.alloc (.cells #[.bool false, .slice none 0 0, .slice none 0 0, .slice none 0 0] 68))) ((w.alloc (.cells #[.bool false, .slice none 0 0, .slice none 0 0, .slice none 0 0] 68))).heap.size (by rfl) (.tmp 67) (.tmp 70) 30 3 (.int .i64 0) 8 rfl Try.underlying30 info3_ rfl (by decide) (by omega) (.slice A3 kids1.length c3) kids1 x2 [.int .i64 x2] (fun _ => True) (fun _ => False) rfl rfl ?aP (fun _ hk => hk.elim) ?aF ?aO ?aB ?aS ?aL ?_
   (case aP => exact rfl)
   (case aF => exact (fun _ _ => trivial))
   (case aO => exact hNc.out.ri)
   (case aB => exact hNc.out.bel)
   (case aS => exact hNc.out.bel.size)
   (case aL => have := HLEK.out; omega)
   intro va wa ho hb hg hat
   have bNa := Aside0.mk (blk_grown hNc.out.bN hg (Kd.R_ne hNc.out.ri hNc.out.bN (by decide)))
   rw [← HKS3.out] at ho
   obtain ⟨Ao3, co3, eo⟩ := Kd.R_slice ho
   subst eo
   have hNs := Aside0.mk (hNc.out.pushKid (by decide) (by decide) ho hb hg)
   clear ho hb hg hat
   refine hK.out _ _ ⟨(blk_cell bNa.out 0).trans rfl, (blk_cell bNa.out 1).trans rfl, (blk_cell bNa.out 2).trans rfl, (blk_cell bNa.out 3).trans rfl⟩ (fun hHeld => ?_)
   clear hK K
   refine seq_norm (a' := ?_) ?_ ?_; rotate_left; (· show Act.put _ (some 71) _ = _; simp only [Act.put, List.setIfInBounds_toArray, List.set_cons_zero, List.set_cons_succ, i64_w, i32_w]; try rfl)
   (refine seq_p (v := ?_) (a' := ?_) rfl rfl (Or.inl ⟨by rfl, ?_⟩) ?_ ?_; rotate_left; (· intro w'; go_simp; with_reducible rfl); rotate_left; (· show Act.put _ (some _) _ = _; simp only [Act.put, List.setIfInBounds_toArray, List.set_cons_zero, List.set_cons_succ, i64_w, i32_w]; try rfl))
   refine seq_l rfl rfl (fun K hK => ?_)
   have hs1 : wa.cell? ⟨w1.heap.size + 1, 3, none⟩ = some (.slice A3 kids1.length c3) := (blk_cell bNa.out 3).trans rfl
   have hf1 := blk_frozen bNa.out 3
   refine skip_ (w1 := ?_) (by rfl) rfl ?_ ?_
   rotate_left
   ·go_simp
    rfl
   refine hK.out _ _ ?_
   clear hK K
   refine seq_done ?_
   clear hNc bNa hs1 hf1 hHeld
   generalize wa.setCell ⟨w1.heap.size + 1, 3, none⟩ _ = w7 at hNs ⊢
   have HN3 := Aside0.mk hNs.out
   clear hNs
   clear HX
   go_wp2
   have hw : wrap64 ((kk : Int) + 1) = ((kk + 1 : Nat) : Int) := by unfold wrap64; omega
   have hfin : (nIter false body 1000000000 ⟨at0, bad0, [], [], []⟩ (kk + 1)) = ⟨a3, b3, ks1, vals1, ks3⟩ := by rw [HSTEP.out]; simp [nStep, HX1.out, HX2.out, HKS1.out, HKS3.out]
   have HW := Aside0.mk hw
   have HF := Aside0.mk hfin
   clear hw hfin
   go_roundg (J - (kk + 1))
   case measure => omega
   case rel => exact ⟨kk + 1, Ao1, co1, A2, c2, Ao3, co3, by omega, by omega, by first | rfl | exact congrArg (Value.int .i64) HW.out, by rw [HF.out]; exact HN3⟩
  ·have : kk = J := by omega
   subst this
   rw [HST.out] at HN
   simp only at HN
   have hr0 : wr.cell? ⟨w1.heap.size, 2, none⟩ = some (.bool bad) := (blk_cell HN.out.bR 2).trans rfl
   have hn0 : wr.cell? ⟨w1.heap.size + 1, 0, none⟩ = some (.bool false) := (blk_cell HN.out.bN 0).trans rfl
   have hn1 : wr.cell? ⟨w1.heap.size + 1, 1, none⟩ = some (.slice A1 keys.length c1) := (blk_cell HN.out.bN 1).trans rfl
   have hn2 : wr.cell? ⟨w1.heap.size + 1, 2, none⟩ = some (.slice A2 vals.length c2) := (blk_cell HN.out.bN 2).trans rfl
   have hn3 : wr.cell? ⟨w1.heap.size + 1, 3, none⟩ = some (.slice A3 kids.length c3) := (blk_cell HN.out.bN 3).trans rfl
   have hbo := Aside0.mk (HN.out.bel.block w.heap.size (by simp))
   have BO := Aside0.mk (hbo.out.trans (blk_new w _))
   clear hbo
   have hlN := blk_lt HN.out.bN
   have hlR := blk_lt HN.out.bR
   have hlo := blk_lt BO.out
   by_cases q1 : kk = kn
   ·have q2 : decide ((kk : Int) < (kn : Int)) = false := decide_eq_false (by omega)
    have q3 : decide (kk < kn) = false := decide_eq_false (by omega)
    clear q1 hJ1 hJ2
    cases hbad : bad with
    | true =>
     subst hbad
     rcases HRES.out with ⟨e1, e2, e3, e4, e5⟩ | ⟨e1, e4, e5⟩
     ·cases e1
     ·subst e4 e5
      clear e1
      go_wp2_with fail
      ((with_reducible refine (spec_NodeText.calls k2 false A1 c1 keys A2 c2 vals A3 c3 kids back right _ (R_seen HN.out.rk).2 (R_seen HN.out.rk).1 (R_seen HN.out.rv).2 (R_seen HN.out.rv).1 (R_seen HN.out.ri).2 (R_seen HN.out.ri).1 HNT.out).mono ?_); rintro e w5 ⟨rfl, hb5⟩)
      obtain ⟨hc5, hf5⟩ := bcell hb5
      have BO5 := Aside0.mk (blk_below BO.out hb5)
      have HN5 := Aside0.mk (HN.out.below hb5)
      clear hb5
      have hob0 : wr.cell? ⟨w.heap.size, 0, none⟩ = some (.bool false) := (blk_cell BO.out 0).trans rfl
      have hob1 : wr.cell? ⟨w.heap.size, 1, none⟩ = some (.slice none 0 0) := (blk_cell BO.out 1).trans rfl
      have hob2 : wr.cell? ⟨w.heap.size, 2, none⟩ = some (.slice none 0 0) := (blk_cell BO.out 2).trans rfl
      have hob3 : wr.cell? ⟨w.heap.size, 3, none⟩ = some (.slice none 0 0) := (blk_cell BO.out 3).trans rfl
      have hfo := blk_frozen BO.out
      go_wp2
      have B1 := blk_put BO5.out 0 (.bool false) rfl
      have B2 := blk_put B1 1 (.slice none 0 0) rfl
      have B3 := blk_put B2 2 (.slice none 0 0) rfl
      have B4 := blk_put B3 3 (.slice none 0 0) rfl
      refine bodyPost_ret (results_ct rfl _ _ w.heap.size 68 #[.bool false, .slice none 0 0, .slice none 0 0, .slice none 0 0] (0, 0) _ rfl B4 Try.underlying68 rfl (by kernel_rfl)) rfl ?_
      exact node_post (n := z68) (Kd.R_nil _ _ _ _ _) (Kd.R_nil _ _ _ _ _) (Kd.R_nil _ _ _ _ _) (four_below w.heap.size (base_below HN5.out.bel) (Nat.le_refl _))
    | false =>
     subst hbad
     rcases HRES.out with ⟨e1, e2, e3, e4, e5⟩ | ⟨e1, e4, e5⟩
     ·subst e2 e4 e5
      have hq1 : (back.toList == t.toList) = true := by rw [e3]; simp
      have hq2 : (back.toList != t.toList) = false := by rw [e3]; simp
      have hq3 : (!(back.toList == t.toList)) = false := by rw [hq1]; rfl
      have HE := Aside0.mk e3
      clear e3 e1
      go_wp2_with fail
      ((with_reducible refine (spec_NodeText.calls k2 false A1 c1 keys A2 c2 vals A3 c3 kids back true _ (R_seen HN.out.rk).2 (R_seen HN.out.rk).1 (R_seen HN.out.rv).2 (R_seen HN.out.rv).1 (R_seen HN.out.ri).2 (R_seen HN.out.ri).1 HNT.out).mono ?_); rintro e w5 ⟨rfl, hb5⟩)
      obtain ⟨hc5, hf5⟩ := bcell hb5
      have BO5 := Aside0.mk (blk_below BO.out hb5)
      have HN5 := Aside0.mk (HN.out.below hb5)
      clear hb5
      have hob0 : wr.cell? ⟨w.heap.size, 0, none⟩ = some (.bool false) := (blk_cell BO.out 0).trans rfl
      have hob1 : wr.cell? ⟨w.heap.size, 1, none⟩ = some (.slice none 0 0) := (blk_cell BO.out 1).trans rfl
      have hob2 : wr.cell? ⟨w.heap.size, 2, none⟩ = some (.slice none 0 0) := (blk_cell BO.out 2).trans rfl
      have hob3 : wr.cell? ⟨w.heap.size, 3, none⟩ = some (.slice none 0 0) := (blk_cell BO.out 3).trans rfl
      have hfo := blk_frozen BO.out
      go_wp2
      have B1 := blk_put BO5.out 0 (.bool false) rfl
      have B2 := blk_put B1 1 (.slice A1 keys.length c1) rfl
      have B3 := blk_put B2 2 (.slice A2 vals.length c2) rfl
      have B4 := blk_put B3 3 (.slice A3 kids.length c3) rfl
      refine bodyPost_ret (results_ct rfl _ _ w.heap.size 68 #[.bool false, .slice A1 keys.length c1, .slice A2 vals.length c2, .slice A3 kids.length c3] (0, 0) _ rfl B4 Try.underlying68 rfl (by kernel_rfl)) rfl ?_
      exact node_post (n := ⟨false, keys, vals, kids⟩) (Kd.R_lower (four_set HN5.out.rk BO5.out B1 B2 B3 (by decide)) (by simp)) (Kd.R_lower (four_set HN5.out.rv BO5.out B1 B2 B3 (by decide)) (by simp)) (Kd.R_lower (four_set HN5.out.ri BO5.out B1 B2 B3 (by decide)) (by simp)) (four_below w.heap.size (base_below HN5.out.bel) (Nat.le_refl _))
     ·subst e4 e5
      cases hright : right with
      | false =>
       subst hright
       clear e1
       go_wp2_with fail
       ((with_reducible refine (spec_NodeText.calls k2 false A1 c1 keys A2 c2 vals A3 c3 kids back false _ (R_seen HN.out.rk).2 (R_seen HN.out.rk).1 (R_seen HN.out.rv).2 (R_seen HN.out.rv).1 (R_seen HN.out.ri).2 (R_seen HN.out.ri).1 HNT.out).mono ?_); rintro e w5 ⟨rfl, hb5⟩)
       obtain ⟨hc5, hf5⟩ := bcell hb5
       have BO5 := Aside0.mk (blk_below BO.out hb5)
       have HN5 := Aside0.mk (HN.out.below hb5)
       clear hb5
       have hob0 : wr.cell? ⟨w.heap.size, 0, none⟩ = some (.bool false) := (blk_cell BO.out 0).trans rfl
       have hob1 : wr.cell? ⟨w.heap.size, 1, none⟩ = some (.slice none 0 0) := (blk_cell BO.out 1).trans rfl
       have hob2 : wr.cell? ⟨w.heap.size, 2, none⟩ = some (.slice none 0 0) := (blk_cell BO.out 2).trans rfl
       have hob3 : wr.cell? ⟨w.heap.size, 3, none⟩ = some (.slice none 0 0) := (blk_cell BO.out 3).trans rfl
       have hfo := blk_frozen BO.out
       go_wp2
       have B1 := blk_put BO5.out 0 (.bool false) rfl
       have B2 := blk_put B1 1 (.slice none 0 0) rfl
       have B3 := blk_put B2 2 (.slice none 0 0) rfl
       have B4 := blk_put B3 3 (.slice none 0 0) rfl
       refine bodyPost_ret (results_ct rfl _ _ w.heap.size 68 #[.bool false, .slice none 0 0, .slice none 0 0, .slice none 0 0] (0, 0) _ rfl B4 Try.underlying68 rfl (by kernel_rfl)) rfl ?_
       exact node_post (n := z68) (Kd.R_nil _ _ _ _ _) (Kd.R_nil _ _ _ _ _) (Kd.R_nil _ _ _ _ _) (four_below w.heap.size (base_below HN5.out.bel) (Nat.le_refl _))
      | true =>
       subst hright
       have e3 : ¬ back.toList = t.toList := by
        rcases e1 with e | e | e
        ·cases e
        ·cases e
        ·exact e
       have hq1 : (back.toList == t.toList) = false := by simpa using e3
       have hq2 : (back.toList != t.toList) = true := by simpa using e3
       have hq3 : (!(back.toList == t.toList)) = true := by rw [hq1]; rfl
       have HE := Aside0.mk e3
       clear e3 e1
       go_wp2_with fail
       ((with_reducible refine (spec_NodeText.calls k2 false A1 c1 keys A2 c2 vals A3 c3 kids back true _ (R_seen HN.out.rk).2 (R_seen HN.out.rk).1 (R_seen HN.out.rv).2 (R_seen HN.out.rv).1 (R_seen HN.out.ri).2 (R_seen HN.out.ri).1 HNT.out).mono ?_); rintro e w5 ⟨rfl, hb5⟩)
       obtain ⟨hc5, hf5⟩ := bcell hb5
       have BO5 := Aside0.mk (blk_below BO.out hb5)
       have HN5 := Aside0.mk (HN.out.below hb5)
       clear hb5
       have hob0 : wr.cell? ⟨w.heap.size, 0, none⟩ = some (.bool false) := (blk_cell BO.out 0).trans rfl
       have hob1 : wr.cell? ⟨w.heap.size, 1, none⟩ = some (.slice none 0 0) := (blk_cell BO.out 1).trans rfl
       have hob2 : wr.cell? ⟨w.heap.size, 2, none⟩ = some (.slice none 0 0) := (blk_cell BO.out 2).trans rfl
       have hob3 : wr.cell? ⟨w.heap.size, 3, none⟩ = some (.slice none 0 0) := (blk_cell BO.out 3).trans rfl
       have hfo := blk_frozen BO.out
       go_wp2
       have B1 := blk_put BO5.out 0 (.bool false) rfl
       have B2 := blk_put B1 1 (.slice none 0 0) rfl
       have B3 := blk_put B2 2 (.slice none 0 0) rfl
       have B4 := blk_put B3 3 (.slice none 0 0) rfl
       refine bodyPost_ret (results_ct rfl _ _ w.heap.size 68 #[.bool false, .slice none 0 0, .slice none 0 0, .slice none 0 0] (0, 0) _ rfl B4 Try.underlying68 rfl (by kernel_rfl)) rfl ?_
       exact node_post (n := z68) (Kd.R_nil _ _ _ _ _) (Kd.R_nil _ _ _ _ _) (Kd.R_nil _ _ _ _ _) (four_below w.heap.size (base_below HN5.out.bel) (Nat.le_refl _))
   ·have q2 : decide ((kk : Int) < (kn : Int)) = true := decide_eq_true (by omega)
    have q3 : decide (kk < kn) = true := decide_eq_true (by omega)
    by_cases q4 : kk = 10
    ·have q5 : decide ((kk : Int) < 10) = false := decide_eq_false (by omega)
     have q6 : decide (kk < 10) = false := decide_eq_false (by omega)
     clear q1 q4 hJ1 hJ2
     cases hbad : bad with
     | true =>
      subst hbad
      rcases HRES.out with ⟨e1, e2, e3, e4, e5⟩ | ⟨e1, e4, e5⟩
      ·cases e1
      ·subst e4 e5
       clear e1
       go_wp2_with fail
       ((with_reducible refine (spec_NodeText.calls k2 false A1 c1 keys A2 c2 vals A3 c3 kids back right _ (R_seen HN.out.rk).2 (R_seen HN.out.rk).1 (R_seen HN.out.rv).2 (R_seen HN.out.rv).1 (R_seen HN.out.ri).2 (R_seen HN.out.ri).1 HNT.out).mono ?_); rintro e w5 ⟨rfl, hb5⟩)
       obtain ⟨hc5, hf5⟩ := bcell hb5
       have BO5 := Aside0.mk (blk_below BO.out hb5)
       have HN5 := Aside0.mk (HN.out.below hb5)
       clear hb5
       have hob0 : wr.cell? ⟨w.heap.size, 0, none⟩ = some (.bool false) := (blk_cell BO.out 0).trans rfl
       have hob1 : wr.cell? ⟨w.heap.size, 1, none⟩ = some (.slice none 0 0) := (blk_cell BO.out 1).trans rfl
       have hob2 : wr.cell? ⟨w.heap.size, 2, none⟩ = some (.slice none 0 0) := (blk_cell BO.out 2).trans rfl
       have hob3 : wr.cell? ⟨w.heap.size, 3, none⟩ = some (.slice none 0 0) := (blk_cell BO.out 3).trans rfl
       have hfo := blk_frozen BO.out
       go_wp2
       have B1 := blk_put BO5.out 0 (.bool false) rfl
       have B2 := blk_put B1 1 (.slice none 0 0) rfl
       have B3 := blk_put B2 2 (.slice none 0 0) rfl
       have B4 := blk_put B3 3 (.slice none 0 0) rfl
       refine bodyPost_ret (results_ct rfl _ _ w.heap.size 68 #[.bool false, .slice none 0 0, .slice none 0 0, .slice none 0 0] (0, 0) _ rfl B4 Try.underlying68 rfl (by kernel_rfl)) rfl ?_
       exact node_post (n := z68) (Kd.R_nil _ _ _ _ _) (Kd.R_nil _ _ _ _ _) (Kd.R_nil _ _ _ _ _) (four_below w.heap.size (base_below HN5.out.bel) (Nat.le_refl _))
     | false =>
      subst hbad
      rcases HRES.out with ⟨e1, e2, e3, e4, e5⟩ | ⟨e1, e4, e5⟩
      ·subst e2 e4 e5
       have hq1 : (back.toList == t.toList) = true := by rw [e3]; simp
       have hq2 : (back.toList != t.toList) = false := by rw [e3]; simp
       have hq3 : (!(back.toList == t.toList)) = false := by rw [hq1]; rfl
       have HE := Aside0.mk e3
       clear e3 e1
       go_wp2_with fail
       ((with_reducible refine (spec_NodeText.calls k2 false A1 c1 keys A2 c2 vals A3 c3 kids back true _ (R_seen HN.out.rk).2 (R_seen HN.out.rk).1 (R_seen HN.out.rv).2 (R_seen HN.out.rv).1 (R_seen HN.out.ri).2 (R_seen HN.out.ri).1 HNT.out).mono ?_); rintro e w5 ⟨rfl, hb5⟩)
       obtain ⟨hc5, hf5⟩ := bcell hb5
       have BO5 := Aside0.mk (blk_below BO.out hb5)
       have HN5 := Aside0.mk (HN.out.below hb5)
       clear hb5
       have hob0 : wr.cell? ⟨w.heap.size, 0, none⟩ = some (.bool false) := (blk_cell BO.out 0).trans rfl
       have hob1 : wr.cell? ⟨w.heap.size, 1, none⟩ = some (.slice none 0 0) := (blk_cell BO.out 1).trans rfl
       have hob2 : wr.cell? ⟨w.heap.size, 2, none⟩ = some (.slice none 0 0) := (blk_cell BO.out 2).trans rfl
       have hob3 : wr.cell? ⟨w.heap.size, 3, none⟩ = some (.slice none 0 0) := (blk_cell BO.out 3).trans rfl
       have hfo := blk_frozen BO.out
       go_wp2
       have B1 := blk_put BO5.out 0 (.bool false) rfl
       have B2 := blk_put B1 1 (.slice A1 keys.length c1) rfl
       have B3 := blk_put B2 2 (.slice A2 vals.length c2) rfl
       have B4 := blk_put B3 3 (.slice A3 kids.length c3) rfl
       refine bodyPost_ret (results_ct rfl _ _ w.heap.size 68 #[.bool false, .slice A1 keys.length c1, .slice A2 vals.length c2, .slice A3 kids.length c3] (0, 0) _ rfl B4 Try.underlying68 rfl (by kernel_rfl)) rfl ?_
       exact node_post (n := ⟨false, keys, vals, kids⟩) (Kd.R_lower (four_set HN5.out.rk BO5.out B1 B2 B3 (by decide)) (by simp)) (Kd.R_lower (four_set HN5.out.rv BO5.out B1 B2 B3 (by decide)) (by simp)) (Kd.R_lower (four_set HN5.out.ri BO5.out B1 B2 B3 (by decide)) (by simp)) (four_below w.heap.size (base_below HN5.out.bel) (Nat.le_refl _))
      ·subst e4 e5
       cases hright : right with
       | false =>
        subst hright
        clear e1
        go_wp2_with fail
        ((with_reducible refine (spec_NodeText.calls k2 false A1 c1 keys A2 c2 vals A3 c3 kids back false _ (R_seen HN.out.rk).2 (R_seen HN.out.rk).1 (R_seen HN.out.rv).2 (R_seen HN.out.rv).1 (R_seen HN.out.ri).2 (R_seen HN.out.ri).1 HNT.out).mono ?_); rintro e w5 ⟨rfl, hb5⟩)
        obtain ⟨hc5, hf5⟩ := bcell hb5
        have BO5 := Aside0.mk (blk_below BO.out hb5)
        have HN5 := Aside0.mk (HN.out.below hb5)
        clear hb5
        have hob0 : wr.cell? ⟨w.heap.size, 0, none⟩ = some (.bool false) := (blk_cell BO.out 0).trans rfl
        have hob1 : wr.cell? ⟨w.heap.size, 1, none⟩ = some (.slice none 0 0) := (blk_cell BO.out 1).trans rfl
        have hob2 : wr.cell? ⟨w.heap.size, 2, none⟩ = some (.slice none 0 0) := (blk_cell BO.out 2).trans rfl
        have hob3 : wr.cell? ⟨w.heap.size, 3, none⟩ = some (.slice none 0 0) := (blk_cell BO.out 3).trans rfl
        have hfo := blk_frozen BO.out
        go_wp2
        have B1 := blk_put BO5.out 0 (.bool false) rfl
        have B2 := blk_put B1 1 (.slice none 0 0) rfl
        have B3 := blk_put B2 2 (.slice none 0 0) rfl
        have B4 := blk_put B3 3 (.slice none 0 0) rfl
        refine bodyPost_ret (results_ct rfl _ _ w.heap.size 68 #[.bool false, .slice none 0 0, .slice none 0 0, .slice none 0 0] (0, 0) _ rfl B4 Try.underlying68 rfl (by kernel_rfl)) rfl ?_
        exact node_post (n := z68) (Kd.R_nil _ _ _ _ _) (Kd.R_nil _ _ _ _ _) (Kd.R_nil _ _ _ _ _) (four_below w.heap.size (base_below HN5.out.bel) (Nat.le_refl _))
       | true =>
        subst hright
        have e3 : ¬ back.toList = t.toList := by
         rcases e1 with e | e | e
         ·cases e
         ·cases e
         ·exact e
        have hq1 : (back.toList == t.toList) = false := by simpa using e3
        have hq2 : (back.toList != t.toList) = true := by simpa using e3
        have hq3 : (!(back.toList == t.toList)) = true := by rw [hq1]; rfl
        have HE := Aside0.mk e3
        clear e3 e1
        go_wp2_with fail
        ((with_reducible refine (spec_NodeText.calls k2 false A1 c1 keys A2 c2 vals A3 c3 kids back true _ (R_seen HN.out.rk).2 (R_seen HN.out.rk).1 (R_seen HN.out.rv).2 (R_seen HN.out.rv).1 (R_seen HN.out.ri).2 (R_seen HN.out.ri).1 HNT.out).mono ?_); rintro e w5 ⟨rfl, hb5⟩)
        obtain ⟨hc5, hf5⟩ := bcell hb5
        have BO5 := Aside0.mk (blk_below BO.out hb5)
        have HN5 := Aside0.mk (HN.out.below hb5)
        clear hb5
        have hob0 : wr.cell? ⟨w.heap.size, 0, none⟩ = some (.bool false) := (blk_cell BO.out 0).trans rfl
        have hob1 : wr.cell? ⟨w.heap.size, 1, none⟩ = some (.slice none 0 0) := (blk_cell BO.out 1).trans rfl
        have hob2 : wr.cell? ⟨w.heap.size, 2, none⟩ = some (.slice none 0 0) := (blk_cell BO.out 2).trans rfl
        have hob3 : wr.cell? ⟨w.heap.size, 3, none⟩ = some (.slice none 0 0) := (blk_cell BO.out 3).trans rfl
        have hfo := blk_frozen BO.out
        go_wp2
        have B1 := blk_put BO5.out 0 (.bool false) rfl
        have B2 := blk_put B1 1 (.slice none 0 0) rfl
        have B3 := blk_put B2 2 (.slice none 0 0) rfl
        have B4 := blk_put B3 3 (.slice none 0 0) rfl
        refine bodyPost_ret (results_ct rfl _ _ w.heap.size 68 #[.bool false, .slice none 0 0, .slice none 0 0, .slice none 0 0] (0, 0) _ rfl B4 Try.underlying68 rfl (by kernel_rfl)) rfl ?_
        exact node_post (n := z68) (Kd.R_nil _ _ _ _ _) (Kd.R_nil _ _ _ _ _) (Kd.R_nil _ _ _ _ _) (four_below w.heap.size (base_below HN5.out.bel) (Nat.le_refl _))
    ·have q5 : decide ((kk : Int) < 10) = true := decide_eq_true (by omega)
     have q6 : decide (kk < 10) = true := decide_eq_true (by omega)
     have q7 : bad = true := by
      rcases HJ4.out with e | e | e
      ·exact absurd e q1
      ·exact absurd e q4
      ·exact e
     subst q7
     clear q1 q4 hJ1 hJ2
     rcases HRES.out with ⟨e1, e2, e3, e4, e5⟩ | ⟨e1, e4, e5⟩
     ·cases e1
     ·subst e4 e5
      clear e1
      go_wp2_with fail
      ((with_reducible refine (spec_NodeText.calls k2 false A1 c1 keys A2 c2 vals A3 c3 kids back right _ (R_seen HN.out.rk).2 (R_seen HN.out.rk).1 (R_seen HN.out.rv).2 (R_seen HN.out.rv).1 (R_seen HN.out.ri).2 (R_seen HN.out.ri).1 HNT.out).mono ?_); rintro e w5 ⟨rfl, hb5⟩)
      obtain ⟨hc5, hf5⟩ := bcell hb5
      have BO5 := Aside0.mk (blk_below BO.out hb5)
      have HN5 := Aside0.mk (HN.out.below hb5)
      clear hb5
      have hob0 : wr.cell? ⟨w.heap.size, 0, none⟩ = some (.bool false) := (blk_cell BO.out 0).trans rfl
      have hob1 : wr.cell? ⟨w.heap.size, 1, none⟩ = some (.slice none 0 0) := (blk_cell BO.out 1).trans rfl
      have hob2 : wr.cell? ⟨w.heap.size, 2, none⟩ = some (.slice none 0 0) := (blk_cell BO.out 2).trans rfl
      have hob3 : wr.cell? ⟨w.heap.size, 3, none⟩ = some (.slice none 0 0) := (blk_cell BO.out 3).trans rfl
      have hfo := blk_frozen BO.out
      go_wp2
      have B1 := blk_put BO5.out 0 (.bool false) rfl
      have B2 := blk_put B1 1 (.slice none 0 0) rfl
      have B3 := blk_put B2 2 (.slice none 0 0) rfl
      have B4 := blk_put B3 3 (.slice none 0 0) rfl
      refine bodyPost_ret (results_ct rfl _ _ w.heap.size 68 #[.bool false, .slice none 0 0, .slice none 0 0, .slice none 0 0] (0, 0) _ rfl B4 Try.underlying68 rfl (by kernel_rfl)) rfl ?_
      exact node_post (n := z68) (Kd.R_nil _ _ _ _ _) (Kd.R_nil _ _ _ _ _) (Kd.R_nil _ _ _ _ _) (four_below w.heap.size (base_below HN5.out.bel) (Nat.le_refl _))
theorem spec_node_no (k : Nat) (t body : ByteArray) (w : World) (hu : spec_Unsealed.f k t = some (body, false))  :
  Calls Try.prog 35 #[.string t] w (NodePost w z68 false) := by
 have HU := Aside0.mk hu
 clear hu
 go_enter Try.func35, Try.ntmps35
 go_wp2_with fail
 ((with_reducible refine (spec_Unsealed.calls k t body false _ HU.out).mono ?_); rintro e w1 ⟨rfl, hb1⟩)
 obtain ⟨hc1, hf1⟩ := bcell hb1
 have hz1 : w.heap.size < w1.heap.size := by have hh := hb1.size; (try simp at hh); omega
 have HB1 := Aside0.mk hb1
 have BO := Aside0.mk (blk_below (blk_new w (.cells #[.bool false, .slice none 0 0, .slice none 0 0, .slice none 0 0] 68)) hb1)
 have hob0 : w1.cell? ⟨w.heap.size, 0, none⟩ = some (.bool false) := (blk_cell BO.out 0).trans rfl
 have hob1 : w1.cell? ⟨w.heap.size, 1, none⟩ = some (.slice none 0 0) := (blk_cell BO.out 1).trans rfl
 have hob2 : w1.cell? ⟨w.heap.size, 2, none⟩ = some (.slice none 0 0) := (blk_cell BO.out 2).trans rfl
 have hob3 : w1.cell? ⟨w.heap.size, 3, none⟩ = some (.slice none 0 0) := (blk_cell BO.out 3).trans rfl
 have hfo := blk_frozen BO.out
 clear hb1 hc1 hf1
 go_wp2
 have B1 := blk_put BO.out 0 (.bool false) rfl
 have B2 := blk_put B1 1 (.slice none 0 0) rfl
 have B3 := blk_put B2 2 (.slice none 0 0) rfl
 have B4 := blk_put B3 3 (.slice none 0 0) rfl
 refine bodyPost_ret (results_ct rfl _ _ w.heap.size 68 #[.bool false, .slice none 0 0, .slice none 0 0, .slice none 0 0] (0, 0) _ rfl B4 Try.underlying68 rfl (by kernel_rfl)) rfl ?_
 exact node_post (n := z68) (Kd.R_nil _ _ _ _ _) (Kd.R_nil _ _ _ _ _) (Kd.R_nil _ _ _ _ _) (four_below w.heap.size (base_below HB1.out) (Nat.le_refl _))
theorem spec_node_short (k : Nat) (t body : ByteArray) (w : World) (hu : spec_Unsealed.f k t = some (body, true)) (h0 : body.size < 2) :
  Calls Try.prog 35 #[.string t] w (NodePost w z68 false) := by
 have HU := Aside0.mk hu
 have HL0 : decide ((body.size : Int) < 2) = true := decide_eq_true (by omega)
 have HL1 : decide (body.size < 2) = true := decide_eq_true (by omega)
 clear hu
 go_enter Try.func35, Try.ntmps35
 go_wp2_with fail
 ((with_reducible refine (spec_Unsealed.calls k t body true _ HU.out).mono ?_); rintro e w1 ⟨rfl, hb1⟩)
 obtain ⟨hc1, hf1⟩ := bcell hb1
 have hz1 : w.heap.size < w1.heap.size := by have hh := hb1.size; (try simp at hh); omega
 have HB1 := Aside0.mk hb1
 have BO := Aside0.mk (blk_below (blk_new w (.cells #[.bool false, .slice none 0 0, .slice none 0 0, .slice none 0 0] 68)) hb1)
 have hob0 : w1.cell? ⟨w.heap.size, 0, none⟩ = some (.bool false) := (blk_cell BO.out 0).trans rfl
 have hob1 : w1.cell? ⟨w.heap.size, 1, none⟩ = some (.slice none 0 0) := (blk_cell BO.out 1).trans rfl
 have hob2 : w1.cell? ⟨w.heap.size, 2, none⟩ = some (.slice none 0 0) := (blk_cell BO.out 2).trans rfl
 have hob3 : w1.cell? ⟨w.heap.size, 3, none⟩ = some (.slice none 0 0) := (blk_cell BO.out 3).trans rfl
 have hfo := blk_frozen BO.out
 clear hb1 hc1 hf1
 go_wp2
 have B1 := blk_put BO.out 0 (.bool false) rfl
 have B2 := blk_put B1 1 (.slice none 0 0) rfl
 have B3 := blk_put B2 2 (.slice none 0 0) rfl
 have B4 := blk_put B3 3 (.slice none 0 0) rfl
 refine bodyPost_ret (results_ct rfl _ _ w.heap.size 68 #[.bool false, .slice none 0 0, .slice none 0 0, .slice none 0 0] (0, 0) _ rfl B4 Try.underlying68 rfl (by kernel_rfl)) rfl ?_
 exact node_post (n := z68) (Kd.R_nil _ _ _ _ _) (Kd.R_nil _ _ _ _ _) (Kd.R_nil _ _ _ _ _) (four_below w.heap.size (base_below HB1.out) (Nat.le_refl _))
theorem bytes_split (s : ByteArray) {a b c : Nat} (h1 : a ≤ b) (h2 : b ≤ c) : bytes s a c = bytes s a b ++ bytes s b c := by
 obtain ⟨d, rfl⟩ : ∃ d, c = b + d := ⟨c - b, by omega⟩
 induction d with
 | zero => simp [bytes_nil]
 | succ d ih =>
  rw [← Nat.add_assoc, bytes_snoc s (by omega), bytes_snoc s (by omega), ih (by omega), List.append_assoc]
theorem str_bytes (s : ByteArray) (a b : Nat) (hb : b ≤ s.size) : strOfNums (bytes s a b) = s.extract a b := by
 apply ba_ext
 have h := extract_list s a b hb
 rw [Lib.toList_data] at h
 rw [strOfNums_data, h]
theorem bl_extract (s : ByteArray) (a b : Nat) (hb : b ≤ s.size) : bl (s.extract a b) = bytes s a b := by
 rw [← str_bytes s a b hb, bl_str _ (bytes_byte s a b)]
theorem rText_bad (s : ByteArray) (a : Int) : rText s a true = (⟨#[]⟩, a, true) := by unfold rText; rw [if_neg (by simp)]
theorem rNum_bad (s : ByteArray) (a most : Int) : rNum s a true most = (0, a, true) := by unfold rNum; rw [if_neg (by simp)]
theorem rText_good {s : ByteArray} (hs : s.size ≤ 140737488351232) {at_ : Int} (h : (rText s at_ false).2.2 = false) : ∃ a b : Nat, at_ = (a : Int) ∧ (rText s at_ false).2.1 = (b : Int) ∧ a < b ∧ b ≤ s.size ∧ bytes s a b = enc (rText s at_ false).1.size ++ bl (rText s at_ false).1 := by
 obtain ⟨_, _, h3⟩ := rshort_all s hs at_
 rcases h3 with h3 | ⟨a, n, next, h4, h5, h6, h7, h8, h9⟩
 ·unfold rText at h
  rw [h3] at h
  cases h
 ·have e : rText s at_ false = (s.extract next (next + n), ((next + n : Nat) : Int), false) := by unfold rText; rw [h5, if_pos ⟨rfl, rfl⟩]
  rw [e]
  have hsz : (s.extract next (next + n)).size = n := by rw [ByteArray.size_extract]; omega
  refine ⟨a, next + n, h4, rfl, by omega, h8, ?_⟩
  show bytes s a (next + n) = enc (s.extract next (next + n)).size ++ bl (s.extract next (next + n))
  rw [hsz, bl_extract s _ _ h8, bytes_split s (show a ≤ next by omega) (show next ≤ next + n by omega), h9]
theorem rNum_good {s : ByteArray} (hs : s.size ≤ 140737488351232) {at_ most : Int} (h : (rNum s at_ false most).2.2 = false) : ∃ a b n : Nat, at_ = (a : Int) ∧ rNum s at_ false most = ((n : Int), (b : Int), false) ∧ a < b ∧ b ≤ s.size ∧ bytes s a b = enc n ∧ (n : Int) ≤ most ∧ n ≤ 1000000000 ∧ rvar s at_ = ((n : Int), (b : Int), true) := by
 obtain ⟨_, _, _, h3⟩ := rvar_all s hs at_
 rcases h3 with h3 | ⟨a, n, next, h4, h5, h6, h7, h8, h9⟩
 ·unfold rNum at h
  rw [h3] at h
  cases h
 ·by_cases hm : (n : Int) ≤ most
  ·refine ⟨a, next, n, h4, ?_, h7, h8, h9, hm, h6, h5⟩
   unfold rNum
   rw [h5, if_pos ⟨rfl, rfl, hm⟩]
  ·unfold rNum at h
   rw [h5, if_neg (fun q => hm q.2.2)] at h
   cases h
theorem itemsL_snoc (leaf : Bool) (keys vals : List ByteArray) (kids : List Int) : ∀ n i, itemsL leaf keys vals kids i (n + 1) = itemsL leaf keys vals kids i n ++ itemL leaf (keys.getD (i + n) ByteArray.empty) (vals.getD (i + n) ByteArray.empty) (kids.getD (i + n) 0)
 | 0, i => by simp [itemsL]
 | n + 1, i => by
  rw [itemsL, itemsL_snoc leaf keys vals kids n (i + 1), itemsL, List.append_assoc, show i + 1 + n = i + (n + 1) by omega]
theorem itemsL_congr (leaf : Bool) (keys vals keys' vals' : List ByteArray) (kids kids' : List Int) : ∀ n i, (∀ j, i ≤ j → j < i + n → keys.getD j ByteArray.empty = keys'.getD j ByteArray.empty ∧ (leaf = true → vals.getD j ByteArray.empty = vals'.getD j ByteArray.empty) ∧ (leaf = false → kids.getD j 0 = kids'.getD j 0)) → itemsL leaf keys vals kids i n = itemsL leaf keys' vals' kids' i n
 | 0, _, _ => rfl
 | n + 1, i, h => by
  obtain ⟨h1, h2, h3⟩ := h i (Nat.le_refl _) (by omega)
  rw [itemsL, itemsL, itemsL_congr leaf keys vals keys' vals' kids kids' n (i + 1) (fun j q1 q2 => h j (by omega) (by omega)), h1]
  congr 1
  unfold itemL
  cases leaf with
  | true => rw [if_pos rfl, if_pos rfl, h2 rfl]
  | false => rw [if_neg (by simp), if_neg (by simp), h3 rfl]
theorem getD_left {α : Type} (l r : List α) (d : α) {j : Nat} (h : j < l.length) : (l ++ r).getD j d = l.getD j d := by
 rw [List.getD_eq_getElem?_getD, List.getD_eq_getElem?_getD, List.getElem?_append_left h]
theorem getD_last {α : Type} (l : List α) (x d : α) {j : Nat} (h : j = l.length) : (l ++ [x]).getD j d = x := by
 subst h
 rw [List.getD_eq_getElem?_getD, List.getElem?_append_right (Nat.le_refl _), Nat.sub_self]
 rfl
theorem step_bad (leaf : Bool) (s : ByteArray) (most : Int) (st : NSt) (h : st.bad = true) : (nStep leaf s most st).bad = true := by
 unfold nStep
 rw [h, rText_bad]
 cases leaf with
 | true => rw [if_pos rfl, rText_bad]
 | false => rw [if_neg (by simp), rNum_bad]
theorem iter_bad {leaf : Bool} {s : ByteArray} {most : Int} {st : NSt} {j : Nat} (h : (nIter leaf s most st (j + 1)).bad = false) : (nIter leaf s most st j).bad = false := by
 cases hb : (nIter leaf s most st j).bad with
 | false => rfl
 | true =>
  have := step_bad leaf s most _ hb
  rw [show nIter leaf s most st (j + 1) = nStep leaf s most (nIter leaf s most st j) from rfl] at h
  rw [this] at h
  cases h
theorem iter_bad_le {leaf : Bool} {s : ByteArray} {most : Int} {st : NSt} : ∀ (d j : Nat), (nIter leaf s most st (j + d)).bad = false → (nIter leaf s most st j).bad = false
 | 0, _, h => h
 | d + 1, j, h => iter_bad_le d j (iter_bad h)
theorem iter_sound (leaf : Bool) (s : ByteArray) (hs : s.size ≤ 140737488351232) (most : Int) (a0 : Nat) (ha : a0 ≤ s.size) : ∀ j, (nIter leaf s most ⟨(a0 : Int), false, [], [], []⟩ j).bad = false →
  ∃ b : Nat, (nIter leaf s most ⟨(a0 : Int), false, [], [], []⟩ j).at_ = (b : Int) ∧ a0 ≤ b ∧ b ≤ s.size ∧ (nIter leaf s most ⟨(a0 : Int), false, [], [], []⟩ j).keys.length = j ∧
   (leaf = true → (nIter leaf s most ⟨(a0 : Int), false, [], [], []⟩ j).vals.length = j ∧ (nIter leaf s most ⟨(a0 : Int), false, [], [], []⟩ j).kids = []) ∧ (leaf = false → (nIter leaf s most ⟨(a0 : Int), false, [], [], []⟩ j).kids.length = j ∧ (nIter leaf s most ⟨(a0 : Int), false, [], [], []⟩ j).vals = []) ∧
   bytes s a0 b = itemsL leaf (nIter leaf s most ⟨(a0 : Int), false, [], [], []⟩ j).keys (nIter leaf s most ⟨(a0 : Int), false, [], [], []⟩ j).vals (nIter leaf s most ⟨(a0 : Int), false, [], [], []⟩ j).kids 0 j := by
 intro j
 induction j with
 | zero => intro _; exact ⟨a0, rfl, Nat.le_refl _, ha, rfl, fun _ => ⟨rfl, rfl⟩, fun _ => ⟨rfl, rfl⟩, bytes_nil s a0⟩
 | succ j ih =>
  intro hb
  have hb' := iter_bad hb
  obtain ⟨b, h1, h2, h3, h4, h5, h6, h7⟩ := ih hb'
  have hstep : nIter leaf s most ⟨(a0 : Int), false, [], [], []⟩ (j + 1) = nStep leaf s most (nIter leaf s most ⟨(a0 : Int), false, [], [], []⟩ j) := rfl
  rw [hstep] at hb ⊢
  generalize nIter leaf s most ⟨(a0 : Int), false, [], [], []⟩ j = st at *
  obtain ⟨at_, bad, keys, vals, kids⟩ := st
  simp only at h1 h4 h5 h6 h7 hb'
  subst hb'
  unfold nStep at hb ⊢
  cases leaf with
  | true =>
   obtain ⟨q1, q2⟩ := h5 rfl
   subst q2
   simp only [if_true] at hb ⊢
   cases hx : (rText s at_ false).2.2 with
   | true => rw [hx, rText_bad] at hb; cases hb
   | false =>
    rw [hx] at hb
    obtain ⟨a1, b1, e1, e2, e3, e4, e5⟩ := rText_good hs hx
    obtain ⟨a2, b2, g1, g2, g3, g4, g5⟩ := rText_good hs hb
    have : a1 = b := by omega
    subst this
    have : a2 = b1 := by omega
    subst this
    generalize rText s at_ false = X at *
    generalize rText s X.2.1 false = Y at *
    refine ⟨b2, g2, by omega, g4, by simp [h4], fun _ => ⟨by simp [q1], trivial⟩, fun q => (by cases q), ?_⟩
    rw [itemsL_snoc, Nat.zero_add, getD_last keys X.1 _ h4.symm, getD_last vals Y.1 _ q1.symm, itemsL_congr true (keys ++ [X.1]) (vals ++ [Y.1]) keys vals [] [] j 0 (fun i _ hi => ⟨getD_left _ _ _ (by omega), fun _ => getD_left _ _ _ (by omega), fun q => (by cases q)⟩), ← h7]
    rw [bytes_split s (show a0 ≤ a1 by omega) (show a1 ≤ b2 by omega), bytes_split s (show a1 ≤ a2 by omega) (show a2 ≤ b2 by omega), e5, g5]
    rfl
  | false =>
   obtain ⟨q1, q2⟩ := h6 rfl
   subst q2
   simp only [Bool.false_eq_true, if_false] at hb ⊢
   cases hx : (rText s at_ false).2.2 with
   | true => rw [hx, rNum_bad] at hb; cases hb
   | false =>
    rw [hx] at hb
    obtain ⟨a1, b1, e1, e2, e3, e4, e5⟩ := rText_good hs hx
    obtain ⟨a2, b2, n, g1, g2, g3, g4, g5, _⟩ := rNum_good hs hb
    have : a1 = b := by omega
    subst this
    have : a2 = b1 := by omega
    subst this
    rw [g2]
    generalize rText s at_ false = X at *
    refine ⟨b2, rfl, by omega, g4, by simp [h4], fun q => (by cases q), fun _ => ⟨by simp [q1], trivial⟩, ?_⟩
    rw [itemsL_snoc, Nat.zero_add, getD_last keys X.1 _ h4.symm, getD_last kids (n : Int) _ q1.symm, itemsL_congr false (keys ++ [X.1]) [] keys [] (kids ++ [(n : Int)]) kids j 0 (fun i _ hi => ⟨getD_left _ _ _ (by omega), fun q => (by cases q), fun _ => getD_left _ _ _ (by omega)⟩), ← h7]
    rw [bytes_split s (show a0 ≤ a1 by omega) (show a1 ≤ b2 by omega), bytes_split s (show a1 ≤ a2 by omega) (show a2 ≤ b2 by omega), e5, g5]
    rfl
theorem cap_of_good {s : ByteArray} (hs : s.size ≤ 140737488351232) {at_ : Int} {bad : Bool} (h : (rNum s at_ bad 40).2.2 = false) : rNum s at_ bad 1000000000 = rNum s at_ bad 40 := by
 cases bad with
 | true => rw [rNum_bad] at h; cases h
 | false =>
  obtain ⟨a, b, n, h1, h2, h3, h4, h5, h6, h7, h8⟩ := rNum_good hs h
  rw [h2]
  unfold rNum
  rw [h8, if_pos ⟨rfl, rfl, by show (n : Int) ≤ 1000000000; omega⟩]
theorem cap_of_small {s : ByteArray} (hs : s.size ≤ 140737488351232) {at_ : Int} {bad : Bool} (h : (rNum s at_ bad 1000000000).2.2 = false) (h2 : (rNum s at_ bad 1000000000).1 ≤ 39) : rNum s at_ bad 40 = rNum s at_ bad 1000000000 := by
 cases bad with
 | true => rw [rNum_bad] at h; cases h
 | false =>
  obtain ⟨a, b, n, h1, h3, _, h4, h5, h6, h7, h8⟩ := rNum_good hs h
  rw [h3] at h2 ⊢
  unfold rNum
  rw [h8, if_pos ⟨rfl, rfl, by show (n : Int) ≤ 40; have : (n : Int) ≤ 39 := h2; omega⟩]
theorem iter_cap (leaf : Bool) (s : ByteArray) (hs : s.size ≤ 140737488351232) (st : NSt) : ∀ j, (nIter leaf s 40 st j).bad = false → nIter leaf s 1000000000 st j = nIter leaf s 40 st j
 | 0, _ => rfl
 | j + 1, h => by
  have ih := iter_cap leaf s hs st j (iter_bad h)
  show nStep leaf s 1000000000 (nIter leaf s 1000000000 st j) = nStep leaf s 40 (nIter leaf s 40 st j)
  rw [ih]
  have h' : (nStep leaf s 40 (nIter leaf s 40 st j)).bad = false := h
  unfold nStep at h' ⊢
  cases leaf with
  | true => rfl
  | false =>
   rw [if_neg (by simp)] at h' ⊢
   rw [if_neg (by simp), cap_of_good hs h']
theorem iter_small (leaf : Bool) (s : ByteArray) (hs : s.size ≤ 140737488351232) (st : NSt) : ∀ j, (nIter leaf s 1000000000 st j).bad = false → (leaf = false → ∀ x ∈ (nIter leaf s 1000000000 st j).kids, x ≤ 39) → nIter leaf s 40 st j = nIter leaf s 1000000000 st j
 | 0, _, _ => rfl
 | j + 1, h, hk => by
  have h' : (nStep leaf s 1000000000 (nIter leaf s 1000000000 st j)).bad = false := h
  have hk' : leaf = false → ∀ x ∈ (nStep leaf s 1000000000 (nIter leaf s 1000000000 st j)).kids, x ≤ 39 := hk
  have ih := iter_small leaf s hs st j (iter_bad h) (fun q x hx => hk' q x (by
   unfold nStep
   rw [q, if_neg (by simp)]
   rw [q] at hx
   simp only [List.mem_append]
   exact .inl hx))
  show nStep leaf s 40 (nIter leaf s 40 st j) = nStep leaf s 1000000000 (nIter leaf s 1000000000 st j)
  rw [ih]
  unfold nStep at h' hk' ⊢
  cases leaf with
  | true => rfl
  | false =>
   rw [if_neg (by simp)] at h' hk'
   rw [if_neg (by simp), if_neg (by simp), cap_of_small hs h' (hk' rfl _ (by simp))]
theorem first_bad (p : Nat → Bool) : ∀ M, ∃ J, J ≤ M ∧ (∀ j, j < J → p j = false) ∧ (J = M ∨ p J = true)
 | 0 => ⟨0, Nat.le_refl _, fun j h => absurd h (Nat.not_lt_zero _), .inl rfl⟩
 | M + 1 => by
  obtain ⟨J, h1, h2, h3⟩ := first_bad p M
  cases hp : p J with
  | true => exact ⟨J, by omega, h2, .inr hp⟩
  | false =>
   have : J = M := by
    rcases h3 with h3 | h3
    ·exact h3
    ·rw [hp] at h3; cases h3
   subst this
   refine ⟨J + 1, by omega, fun j hj => ?_, .inl rfl⟩
   by_cases e : j = J
   ·subst e; exact hp
   ·exact h2 j (by omega)
theorem sealN_size (s : ByteArray) : (sealN s).size = 4 := by unfold sealN; rw [strOfNums_size]; rfl
theorem toList_size (s : ByteArray) : s.toList.length = s.size := by rw [Lib.toList_data, Array.length_toList]; rfl
theorem toList_app (a b : ByteArray) : (a ++ b).toList = a.toList ++ b.toList := by rw [Lib.toList_data, Lib.toList_data, Lib.toList_data, ByteArray.data_append, Array.toList_append]
theorem toList_inj' {a b : ByteArray} (h : a.toList = b.toList) : a = b := ba_ext (by rw [← Lib.toList_data, ← Lib.toList_data, h])
theorem unsealed_true {t body : ByteArray} (h : unsealed_ t = (body, true)) : body.size ≤ 20000 ∧ ∀ x : ByteArray, (x ++ sealN x).toList = t.toList ↔ x = body := by
 unfold unsealed_ at h
 split at h
 ·rename_i hc
  obtain ⟨h1, h2, h3⟩ := hc
  obtain rfl : t.extract 0 (t.size - 4) = body := by injection h
  have hsz : (t.extract 0 (t.size - 4)).size = t.size - 4 := by rw [ByteArray.size_extract]; omega
  have hsplit : t.toList = (t.extract 0 (t.size - 4)).toList ++ (t.extract (t.size - 4) t.size).toList := by
   rw [extract_list t 0 _ (by omega), extract_list t _ _ (Nat.le_refl _), ← List.map_append, ← bytes_split t (Nat.zero_le _) (by omega)]
   have h0 := extract_list t 0 t.size (Nat.le_refl _)
   rw [← h0]
   congr 1
   apply ba_ext
   rw [ByteArray.data_extract]
   have hs : t.size = t.data.size := rfl
   rw [hs]
   simp
   exact (List.take_of_length_le (by rw [Array.length_toList]; exact Nat.le_refl _)).symm
  refine ⟨by omega, fun x => ⟨fun q => ?_, fun q => ?_⟩⟩
  ·rw [hsplit, toList_app] at q
   have hl := congrArg List.length q
   rw [List.length_append, List.length_append, toList_size, toList_size, toList_size, toList_size, sealN_size, hsz, ByteArray.size_extract] at hl
   exact toList_inj' (List.append_inj q (by rw [toList_size, toList_size, hsz]; omega)).1
  ·subst q
   rw [hsplit, toList_app, h3]
 ·cases h
def HresI (L : Bool) (body : ByteArray) (at_ : Int) (bad : Bool) (keys vals : List ByteArray) (kids : List Int) (n : S68) (ok : Bool) : Prop :=
 (bad = false ∧ at_ = (body.size : Int) ∧ nodeOkB L keys vals kids = true ∧ n = ⟨L, keys, vals, kids⟩ ∧ ok = true) ∨ ((bad = true ∨ ¬ at_ = (body.size : Int) ∨ nodeOkB L keys vals kids = false) ∧ n = z68 ∧ ok = false)
def HresS (L : Bool) (t : ByteArray) (bad : Bool) (keys vals : List ByteArray) (kids : List Int) (back : ByteArray) (right : Bool) (n : S68) (ok : Bool) : Prop :=
 (bad = false ∧ right = true ∧ back.toList = t.toList ∧ n = ⟨L, keys, vals, kids⟩ ∧ ok = true) ∨ ((bad = true ∨ right = false ∨ ¬ back.toList = t.toList) ∧ n = z68 ∧ ok = false)
def ImplRes (L : Bool) (body : ByteArray) (B0 : Bool) (n : S68) (ok : Bool) : Prop :=
 ∃ (kn : Nat) (at0 : Int) (bad0 : Bool) (at_ : Int) (bad : Bool) (keys vals : List ByteArray) (kids : List Int), rNum body 1 B0 4 = ((kn : Int), at0, bad0) ∧ kn ≤ 4 ∧ nIter L body 40 ⟨at0, bad0, [], [], []⟩ kn = ⟨at_, bad, keys, vals, kids⟩ ∧ HresI L body at_ bad keys vals kids n ok
def SpecRes (L : Bool) (t body : ByteArray) (n : S68) (ok : Bool) : Prop :=
 ∃ (k2 kn J : Nat) (at0 : Int) (bad0 : Bool) (at_ : Int) (bad : Bool) (keys vals : List ByteArray) (kids : List Int) (back : ByteArray) (right : Bool), rNum body 1 false 1000000000 = ((kn : Int), at0, bad0) ∧ kn ≤ 1000000000 ∧ J ≤ kn ∧ J ≤ 10 ∧
  (∀ j, j < J → (nIter L body 1000000000 ⟨at0, bad0, [], [], []⟩ j).bad = false) ∧ (J = kn ∨ J = 10 ∨ bad = true) ∧ nIter L body 1000000000 ⟨at0, bad0, [], [], []⟩ J = ⟨at_, bad, keys, vals, kids⟩ ∧ spec_NodeText.f k2 L keys vals kids = some (back, right) ∧ HresS L t bad keys vals kids back right n ok
theorem impl_bad_res (L : Bool) (body : ByteArray) (B0 : Bool) (h : rNum body 1 B0 4 = (0, 1, true)) : ImplRes L body B0 z68 false :=
 ⟨0, 1, true, 1, true, [], [], [], h, by omega, rfl, .inr ⟨.inl rfl, rfl, rfl⟩⟩
theorem spec_bad_res (L : Bool) (t body : ByteArray) (h : rNum body 1 false 1000000000 = (0, 1, true)) : SpecRes L t body z68 false := by
 obtain ⟨K, hK⟩ := (nodeText_ev L [] [] []).rounds
 exact ⟨K, 0, 0, 1, true, 1, true, [], [], [], _, _, h, by omega, by omega, by omega, fun j hj => absurd hj (Nat.not_lt_zero _), .inl rfl, rfl, hK, .inr ⟨.inl rfl, rfl, rfl⟩⟩
theorem body_of_text (L : Bool) (body : ByteArray) (hs : body.size ≤ 20000) (h2 : 1 ≤ body.size) (hf : bt body 0 = if L = true then 108 else 98) {n next b : Nat} {keys vals : List ByteArray} {kids : List Int} (hn : bytes body 1 next = enc n) (h1 : 1 < next) (hb1 : next ≤ b) (hb2 : b ≤ body.size) (hk : keys.length = n) (hi : bytes body next b = itemsL L keys vals kids 0 n) :
  bodyL L keys vals kids = bytes body 0 b := by
 unfold bodyL
 rw [hk, ← hi, ← hn, bytes_split body (show 0 ≤ 1 by omega) (show 1 ≤ b by omega), bytes_split body (show 1 ≤ next by omega) hb1, List.append_assoc]
 congr 1
 rw [← hf]
 rfl
theorem core (L : Bool) (t body : ByteArray) (hs : body.size ≤ 20000) (h2 : 1 ≤ body.size) (hf : bt body 0 = if L = true then 108 else 98) (HT : ∀ x : ByteArray, (x ++ sealN x).toList = t.toList ↔ x = body) :
  ∃ n ok, ImplRes L body false n ok ∧ SpecRes L t body n ok ∧ ((ok = true ∧ nodeOkB n.f0 n.f1 n.f2 n.f3 = true) ∨ (ok = false ∧ n = z68)) := by
 have hs' : body.size ≤ 140737488351232 := by omega
 obtain ⟨_, _, _, hv⟩ := rvar_all body hs' 1
 rcases hv with hv | ⟨a, n, next, ha, hv, hn9, han, hnx, hbn⟩
 ·have e4 : rNum body 1 false 4 = (0, 1, true) := by unfold rNum; rw [hv]; rfl
  have e9 : rNum body 1 false 1000000000 = (0, 1, true) := by unfold rNum; rw [hv]; rfl
  exact ⟨z68, false, impl_bad_res L body false e4, spec_bad_res L t body e9, .inr ⟨rfl, rfl⟩⟩
 ·have ha1 : a = 1 := by omega
  subst ha1
  have e9 : rNum body 1 false 1000000000 = ((n : Int), (next : Int), false) := by
   unfold rNum
   rw [hv, if_pos ⟨rfl, rfl, by show (n : Int) ≤ 1000000000; omega⟩]
  obtain ⟨J, hJ1, hJ2, hJ3⟩ := first_bad (fun j => (nIter L body 1000000000 ⟨(next : Int), false, [], [], []⟩ j).bad) (min n 10)
  obtain ⟨SS, hSS⟩ : ∃ SS, nIter L body 1000000000 ⟨(next : Int), false, [], [], []⟩ J = SS := ⟨_, rfl⟩
  obtain ⟨K, hK⟩ := (nodeText_ev L SS.keys SS.vals SS.kids).rounds
  have hJ3' : J = n ∨ J = 10 ∨ SS.bad = true := by
   rcases hJ3 with h | h
   ·rcases Nat.le_total n 10 with h' | h'
    ·left; omega
    ·right; left; omega
   ·right; right; rw [← hSS]; exact h
  have hspec : ∀ N ok, HresS L t SS.bad SS.keys SS.vals SS.kids (nodeTextN L SS.keys SS.vals SS.kids).1 (nodeTextN L SS.keys SS.vals SS.kids).2 N ok → SpecRes L t body N ok := fun N ok h =>
   ⟨K, n, J, next, false, SS.at_, SS.bad, SS.keys, SS.vals, SS.kids, _, _, e9, hn9, by omega, by omega, hJ2, hJ3', hSS, hK, h⟩
  -- what it means that the reference takes the bytes
  have hacc : ∀ (hb : SS.bad = false), nodeOkB L SS.keys SS.vals SS.kids = true → J = n → textN L SS.keys SS.vals SS.kids = body → SS.at_ = (body.size : Int) := by
   intro hb hok hJn htx
   obtain ⟨b, q1, q2, q3, q4, q5, q6, q7⟩ := iter_sound L body hs' 1000000000 next hnx J (by rw [hSS]; exact hb)
   rw [hSS] at q1 q4 q7
   have hbody := body_of_text L body hs h2 hf hbn han q2 q3 (q4.trans hJn) (by rw [← hJn]; exact q7)
   have hlen := congrArg List.length hbody
   rw [bytes_len] at hlen
   have : (textN L SS.keys SS.vals SS.kids).size = body.size := by rw [htx]
   unfold textN at this
   rw [strOfNums_size] at this
   rw [q1]
   omega
  have hrej : (SS.bad = false → nodeOkB L SS.keys SS.vals SS.kids = true → textN L SS.keys SS.vals SS.kids = body → False) → SpecRes L t body z68 false := by
   intro h
   apply hspec
   refine .inr ⟨?_, rfl, rfl⟩
   cases hb : SS.bad with
   | true => exact .inl rfl
   | false =>
    right
    unfold nodeTextN
    cases hok : nodeOkB L SS.keys SS.vals SS.kids with
    | false => left; simp
    | true =>
     right
     rw [if_pos rfl]
     intro hq
     exact h hb hok ((HT _).1 hq)
  by_cases hn4 : n ≤ 4
  ·have e4 : rNum body 1 false 4 = ((n : Int), (next : Int), false) := by
    unfold rNum
    rw [hv, if_pos ⟨rfl, rfl, by show (n : Int) ≤ 4; omega⟩]
   obtain ⟨SI, hSI⟩ : ∃ SI, nIter L body 40 ⟨(next : Int), false, [], [], []⟩ n = SI := ⟨_, rfl⟩
   have himpl : ∀ N ok, HresI L body SI.at_ SI.bad SI.keys SI.vals SI.kids N ok → ImplRes L body false N ok := fun N ok h => ⟨n, next, false, SI.at_, SI.bad, SI.keys, SI.vals, SI.kids, e4, hn4, hSI, h⟩
   by_cases hI : SI.bad = false ∧ SI.at_ = (body.size : Int) ∧ nodeOkB L SI.keys SI.vals SI.kids = true
   ·have hcap := iter_cap L body hs' ⟨(next : Int), false, [], [], []⟩ n (by rw [hSI]; exact hI.1)
    rw [hSI] at hcap
    have hJn : J = n := by
     rcases hJ3 with h | h
     ·omega
     ·have h' : (nIter L body 1000000000 ⟨(next : Int), false, [], [], []⟩ J).bad = true := h
      have := iter_bad_le (n - J) J (by rw [show J + (n - J) = n by omega, hcap]; exact hI.1)
      rw [h'] at this
      cases this
    have hEq : SS = SI := by rw [← hSS, hJn, hcap]
    obtain ⟨b, q1, q2, q3, q4, q5, q6, q7⟩ := iter_sound L body hs' 40 next hnx n (by rw [hSI]; exact hI.1)
    rw [hSI] at q1 q4 q7
    have hbs : b = body.size := by have := hI.2.1; omega
    have hbody := body_of_text L body hs h2 hf hbn han q2 q3 q4 q7
    have htx : textN L SI.keys SI.vals SI.kids = body := by
     unfold textN
     rw [hbody, hbs]
     exact str_bl body
    refine ⟨⟨L, SI.keys, SI.vals, SI.kids⟩, true, himpl _ _ (.inl ⟨hI.1, hI.2.1, hI.2.2, rfl, rfl⟩), hspec _ _ ?_, .inl ⟨rfl, hI.2.2⟩⟩
    rw [hEq]
    unfold nodeTextN
    rw [if_pos hI.2.2]
    exact .inl ⟨hI.1, rfl, (HT _).2 htx, rfl, rfl⟩
   ·refine ⟨z68, false, himpl _ _ (.inr ⟨?_, rfl, rfl⟩), hrej ?_, .inr ⟨rfl, rfl⟩⟩
    ·cases hb : SI.bad with
     | true => exact .inl rfl
     | false =>
      right
      by_cases h3 : SI.at_ = (body.size : Int)
      ·right
       cases hok : nodeOkB L SI.keys SI.vals SI.kids with
       | false => rfl
       | true => exact absurd ⟨hb, h3, hok⟩ hI
      ·exact .inl h3
    ·intro hb hok htx
     have hJn : J = n := by
      rcases hJ3' with h | h | h
      ·exact h
      ·omega
      ·rw [hb] at h; cases h
     have hat := hacc hb hok hJn htx
     obtain ⟨hsh, hcond⟩ := (nodeOk_iff _ _ _ _).1 hok
     have hsm := iter_small L body hs' ⟨(next : Int), false, [], [], []⟩ J (by rw [hSS]; exact hb) (by
      rw [hSS]
      intro hL x hx
      obtain ⟨i, hi, rfl⟩ := List.getElem_of_mem hx
      have hkl := (hsh.2.2 hL).1
      have := ((hcond i (by omega)).2.2.2 hL).2.1
      rw [List.getD_eq_getElem?_getD, List.getElem?_eq_getElem hi] at this
      exact this)
     rw [hSS, hJn, hSI] at hsm
     subst hsm
     exact hI ⟨hb, hat, hok⟩
  ·have e4 : rNum body 1 false 4 = (0, 1, true) := by
    unfold rNum
    rw [hv, if_neg (fun q => by have : (n : Int) ≤ 4 := q.2.2; omega)]
   refine ⟨z68, false, impl_bad_res L body false e4, hrej ?_, .inr ⟨rfl, rfl⟩⟩
   intro hb hok htx
   obtain ⟨hsh, _⟩ := (nodeOk_iff _ _ _ _).1 hok
   obtain ⟨b, q1, q2, q3, q4, _⟩ := iter_sound L body hs' 1000000000 next hnx J (by rw [hSS]; exact hb)
   rw [hSS] at q4
   have := hsh.1.2
   rcases hJ3' with h | h | h
   ·omega
   ·omega
   ·rw [hb] at h; cases h
theorem spec_rej (L : Bool) (t body : ByteArray) (hs : body.size ≤ 20000) (HT : ∀ x : ByteArray, (x ++ sealN x).toList = t.toList ↔ x = body) (hne : ∀ keys vals kids, textN L keys vals kids ≠ body) : SpecRes L t body z68 false := by
 have hs' : body.size ≤ 140737488351232 := by omega
 obtain ⟨_, _, _, hv⟩ := rvar_all body hs' 1
 rcases hv with hv | ⟨a, n, next, ha, hv, hn9, han, hnx, hbn⟩
 ·have e9 : rNum body 1 false 1000000000 = (0, 1, true) := by unfold rNum; rw [hv]; rfl
  exact spec_bad_res L t body e9
 ·have e9 : rNum body 1 false 1000000000 = ((n : Int), (next : Int), false) := by
   unfold rNum
   rw [hv, if_pos ⟨rfl, rfl, by show (n : Int) ≤ 1000000000; omega⟩]
  obtain ⟨J, hJ1, hJ2, hJ3⟩ := first_bad (fun j => (nIter L body 1000000000 ⟨(next : Int), false, [], [], []⟩ j).bad) (min n 10)
  obtain ⟨SS, hSS⟩ : ∃ SS, nIter L body 1000000000 ⟨(next : Int), false, [], [], []⟩ J = SS := ⟨_, rfl⟩
  obtain ⟨K, hK⟩ := (nodeText_ev L SS.keys SS.vals SS.kids).rounds
  have hJ3' : J = n ∨ J = 10 ∨ SS.bad = true := by
   rcases hJ3 with h | h
   ·rcases Nat.le_total n 10 with h' | h'
    ·left; omega
    ·right; left; omega
   ·right; right; rw [← hSS]; exact h
  refine ⟨K, n, J, next, false, SS.at_, SS.bad, SS.keys, SS.vals, SS.kids, (nodeTextN L SS.keys SS.vals SS.kids).1, (nodeTextN L SS.keys SS.vals SS.kids).2, e9, hn9, by omega, by omega, hJ2, hJ3', hSS, hK, .inr ⟨?_, rfl, rfl⟩⟩
  right
  unfold nodeTextN
  cases hok : nodeOkB L SS.keys SS.vals SS.kids with
  | false => left; simp
  | true =>
   right
   rw [if_pos rfl]
   intro hq
   exact hne _ _ _ ((HT _).1 hq)
theorem node_both (t : ByteArray) (ht : t.size ≤ 140737488351232) : ∃ n ok, (∀ w, Calls Try.prog 30 #[.string t] w (NodePost w n ok)) ∧ (∀ w, Calls Try.prog 35 #[.string t] w (NodePost w n ok)) ∧ ((ok = true ∧ nodeOkB n.f0 n.f1 n.f2 n.f3 = true) ∨ (ok = false ∧ n = z68)) := by
 obtain ⟨⟨k1, u1⟩, ⟨k2, u2⟩⟩ := unsealed_f t ht
 cases hu : unsealed_ t with
 | mk body ok0 =>
  rw [hu] at u1 u2
  cases ok0 with
  | false => exact ⟨z68, false, fun w => readNode_no k1 t body w u1, fun w => spec_node_no k2 t body w u2, .inr ⟨rfl, rfl⟩⟩
  | true =>
   obtain ⟨hs, HT⟩ := unsealed_true hu
   have hs' : body.size ≤ 140737488351232 := by omega
   by_cases h0 : body.size = 0
   ·exact ⟨z68, false, fun w => readNode_empty k1 t body w u1 h0, fun w => spec_node_short k2 t body w u2 (by omega), .inr ⟨rfl, rfl⟩⟩
   ·have hpos : 0 < body.size := by omega
    have hb0 : ∀ h : 0 < body.size, ((body[0]'h).toNat : Int) = bt body 0 := fun h => bt_at body 0 h
    have himp : ∀ (L B0 : Bool) n ok, ImplRes L body B0 n ok → (L = true ∧ B0 = false ∧ bt body 0 = 108) ∨ (L = false ∧ B0 = false ∧ bt body 0 = 98) ∨ (L = false ∧ B0 = true ∧ bt body 0 ≠ 108 ∧ bt body 0 ≠ 98) → ∀ w, Calls Try.prog 30 #[.string t] w (NodePost w n ok) := by
     rintro L B0 n ok ⟨kn, at0, bad0, at_, bad, keys, vals, kids, q1, q2, q3, q4⟩ hcase w
     rcases hcase with ⟨rfl, rfl, h108⟩ | ⟨rfl, rfl, h98⟩ | ⟨rfl, rfl, h1, h3⟩
     ·exact readNode_leaf k1 t body w u1 hs' hpos (fun h => (hb0 h).trans h108) kn at0 bad0 q1 q2 at_ bad keys vals kids q3 n ok q4
     ·exact readNode_branch k1 t body w u1 hs' hpos (fun h => (hb0 h).trans h98) kn at0 bad0 q1 q2 at_ bad keys vals kids q3 n ok q4
     ·exact readNode_other k1 t body w u1 hs' hpos (bt body 0) hb0 (beq_eq_false_iff_ne.2 h1) (bne_iff_ne.2 h1) (bne_iff_ne.2 h3) kn at0 bad0 q1 q2 at_ bad keys vals kids q3 n ok q4
    by_cases h1 : body.size < 2
    ·have hv : ∀ B0 most, rNum body 1 B0 most = (0, 1, true) := by
      intro B0 most
      cases B0 with
      | true => exact rNum_bad body 1 most
      | false =>
       cases hb : (rNum body 1 false most).2.2 with
       | false =>
        obtain ⟨a, b, n, g1, g2, g3, g4, _⟩ := rNum_good hs' hb
        omega
       | true =>
        unfold rNum at hb ⊢
        split at hb
        ·cases hb
        ·rename_i hc
         rw [if_neg hc]
     refine ⟨z68, false, ?_, fun w => spec_node_short k2 t body w u2 h1, .inr ⟨rfl, rfl⟩⟩
     by_cases hA : bt body 0 = 108
     ·exact himp true false _ _ (impl_bad_res _ _ _ (hv _ _)) (.inl ⟨rfl, rfl, hA⟩)
     ·by_cases hB : bt body 0 = 98
      ·exact himp false false _ _ (impl_bad_res _ _ _ (hv _ _)) (.inr (.inl ⟨rfl, rfl, hB⟩))
      ·exact himp false true _ _ (impl_bad_res _ _ _ (hv _ _)) (.inr (.inr ⟨rfl, rfl, hA, hB⟩))
    ·have hsp : ∀ (L : Bool) n ok, SpecRes L t body n ok → (L = true ∧ bt body 0 = 108) ∨ (L = false ∧ bt body 0 ≠ 108) → ∀ w, Calls Try.prog 35 #[.string t] w (NodePost w n ok) := by
      rintro L n ok ⟨kt, kn, J, at0, bad0, at_, bad, keys, vals, kids, back, right, q1, q2, q3, q4, q5, q6, q7, q8, q9⟩ hcase w
      rcases hcase with ⟨rfl, h108⟩ | ⟨rfl, h3⟩
      ·exact spec_node_leaf k2 kt t body w u2 hs' (by omega) (fun h => (hb0 h).trans h108) kn J at0 bad0 q1 q2 q3 q4 q5 at_ bad keys vals kids q6 q7 back right q8 n ok q9
      ·exact spec_node_branch k2 kt t body w u2 hs' (by omega) (bt body 0) hb0 (beq_eq_false_iff_ne.2 h3) kn J at0 bad0 q1 q2 q3 q4 q5 at_ bad keys vals kids q6 q7 back right q8 n ok q9
     by_cases hA : bt body 0 = 108
     ·obtain ⟨n, ok, r1, r2, r3⟩ := core true t body hs (by omega) (by rw [if_pos rfl]; exact hA) HT
      exact ⟨n, ok, himp true false n ok r1 (.inl ⟨rfl, rfl, hA⟩), hsp true n ok r2 (.inl ⟨rfl, hA⟩), r3⟩
     ·by_cases hB : bt body 0 = 98
      ·obtain ⟨n, ok, r1, r2, r3⟩ := core false t body hs (by omega) (by rw [if_neg (by simp)]; exact hB) HT
       exact ⟨n, ok, himp false false n ok r1 (.inr (.inl ⟨rfl, rfl, hB⟩)), hsp false n ok r2 (.inr ⟨rfl, hA⟩), r3⟩
      ·refine ⟨z68, false, himp false true _ _ (impl_bad_res _ _ _ (rNum_bad _ _ _)) (.inr (.inr ⟨rfl, rfl, hA, hB⟩)), hsp false _ _ ?_ (.inr ⟨rfl, hA⟩), .inr ⟨rfl, rfl⟩⟩
       refine spec_rej false t body hs HT (fun keys vals kids he => hB ?_)
       have h3 : bodyL false keys vals kids = bl body := str_inj (bodyL_byte _ _ _ _) (bl_byte _) (he.trans (str_bl body).symm)
       have h4 : bl body = bt body 0 :: bytes body 1 body.size := by
        unfold bl
        rw [bytes_split body (show 0 ≤ 1 by omega) (show 1 ≤ body.size by omega)]
        rfl
       rw [h4] at h3
       unfold bodyL at h3
       rw [if_neg (by simp)] at h3
       simp only [List.singleton_append, List.cons_append, List.cons.injEq] at h3
       exact h3.1.symm
structure Lay (C : Value → Value → Value → Bool → Bool → Array Value) (og op od o1 o2 : Nat) : Prop where
 sg : ∀ a b c x y a', (C a b c x y).setIfInBounds og a' = C a' b c x y
 sp : ∀ a b c x y b', (C a b c x y).setIfInBounds op b' = C a b' c x y
 sd : ∀ a b c x y c', (C a b c x y).setIfInBounds od c' = C a b c' x y
 s1 : ∀ a b c x y x', (C a b c x y).setIfInBounds o1 (.bool x') = C a b c x' y
 s2 : ∀ a b c x y y', (C a b c x y).setIfInBounds o2 (.bool y') = C a b c x y'
structure TInv (C : Value → Value → Value → Bool → Bool → Array Value) (t : Nat) (w0 W : World) (g : Nat) (vg vp vd : Value) (b1 b2 : Bool) (pg : List Int) (pr : List S140) (dp : List Int) : Prop where
 bT : W.heap[g]? = some (.cells (C vg vp vd b1 b2) t (0, 0))
 hT : w0.heap.size ≤ g
 rg : Kd.R (Kd.int .i64) 3 W w0.heap.size (fun _ => True) vg pg
 rp : Kd.R k140 140 W w0.heap.size (fun _ => True) vp pr
 rd : Kd.R (Kd.int .i64) 3 W w0.heap.size (fun _ => True) vd dp
 ne : NeRow vg vd
 bel : Below w0.heap.size w0 W
structure TFr (w w' : World) (g : Nat) (vg vp vd vg' vp' vd' : Value) : Prop where
 size : w.heap.size ≤ w'.heap.size
 keep : ∀ i, i < w.heap.size → i ≠ g → some i ≠ vg.ownBlock → some i ≠ vp.ownBlock → some i ≠ vd.ownBlock → w'.heap[i]? = w.heap[i]?
 ag : vg'.ownBlock = vg.ownBlock ∨ ∃ b, vg'.ownBlock = some b ∧ w.heap.size ≤ b
 ap : vp'.ownBlock = vp.ownBlock ∨ ∃ b, vp'.ownBlock = some b ∧ w.heap.size ≤ b
 ad : vd'.ownBlock = vd.ownBlock ∨ ∃ b, vd'.ownBlock = some b ∧ w.heap.size ≤ b
section
variable {C : Value → Value → Value → Bool → Bool → Array Value} {t og op od o1 o2 : Nat} {w0 w W W' W1 : World} {g : Nat} {vg vp vd vg' vp' vd' v1 vg2 vp2 vd2 : Value} {b1 b2 x : Bool} {pg dp : List Int} {pr : List S140}
theorem at_trans {v v1 v2 : Value} {n m : Nat} (h : v1.ownBlock = v.ownBlock ∨ ∃ b, v1.ownBlock = some b ∧ n ≤ b) (k : v2.ownBlock = v1.ownBlock ∨ ∃ b, v2.ownBlock = some b ∧ m ≤ b) (hnm : n ≤ m) : v2.ownBlock = v.ownBlock ∨ ∃ b, v2.ownBlock = some b ∧ n ≤ b := by
 rcases k with k | ⟨b, k, hb⟩
 ·rw [k]; exact h
 ·exact .inr ⟨b, k, by omega⟩
theorem ne_of_at {v v1 : Value} {n i : Nat} (h : v1.ownBlock = v.ownBlock ∨ ∃ b, v1.ownBlock = some b ∧ n ≤ b) (hi : i < n) (hne : some i ≠ v.ownBlock) : some i ≠ v1.ownBlock := by
 rcases h with h | ⟨b, h, hb⟩
 ·rw [h]; exact hne
 ·rw [h]; intro e; injection e with e; omega
theorem TFr.refl (w : World) (g : Nat) (vg vp vd : Value) : TFr w w g vg vp vd vg vp vd := ⟨Nat.le_refl _, fun _ _ _ _ _ _ => rfl, .inl rfl, .inl rfl, .inl rfl⟩
theorem TFr.trans (h : TFr w W g vg vp vd vg' vp' vd') (k : TFr W W' g vg' vp' vd' vg2 vp2 vd2) : TFr w W' g vg vp vd vg2 vp2 vd2 :=
 ⟨Nat.le_trans h.size k.size, fun i hi hg h1 h2 h3 => (k.keep i (Nat.lt_of_lt_of_le hi h.size) hg (ne_of_at h.ag hi h1) (ne_of_at h.ap hi h2) (ne_of_at h.ad hi h3)).trans (h.keep i hi hg h1 h2 h3),
  at_trans h.ag k.ag h.size, at_trans h.ap k.ap h.size, at_trans h.ad k.ad h.size⟩
theorem TFr.below (h : TFr w W g vg vp vd vg' vp' vd') (hb : Below W.heap.size W W') : TFr w W' g vg vp vd vg' vp' vd' :=
 ⟨Nat.le_trans h.size hb.size, fun i hi hg h1 h2 h3 => (hb.block i (Nat.lt_of_lt_of_le hi h.size)).trans (h.keep i hi hg h1 h2 h3), h.ag, h.ap, h.ad⟩
theorem TFr.set (h : TFr w W g vg vp vd vg' vp' vd') (o : Nat) (u : Value) : TFr w (W.setCell ⟨g, o, none⟩ u) g vg vp vd vg' vp' vd' :=
 ⟨by simpa [World.setCell] using h.size, fun i hi hg h1 h2 h3 => (Below.heap_setCell W ⟨g, o, none⟩ u i hg).trans (h.keep i hi hg h1 h2 h3), h.ag, h.ap, h.ad⟩
theorem TInv.below (h : TInv C t w0 W g vg vp vd b1 b2 pg pr dp) (hb : Below W.heap.size W W') : TInv C t w0 W' g vg vp vd b1 b2 pg pr dp :=
 ⟨blk_below h.bT hb, h.hT, Kd.R_below h.rg hb, Kd.R_below h.rp hb, Kd.R_below h.rd hb, h.ne, h.bel.trans (hb.mono h.bel.size)⟩
theorem TInv.drew (h : TInv C t w0 W g vg vp vd b1 b2 pg pr dp) : TInv C t w0 W.drew g vg vp vd b1 b2 pg pr dp := h.below (Below.refl _ _).drew
theorem TInv.alloc (h : TInv C t w0 W g vg vp vd b1 b2 pg pr dp) (o : Obj) : TInv C t w0 (W.alloc o) g vg vp vd b1 b2 pg pr dp := h.below (below_alloc (Below.refl _ _) _)
theorem set1 (L : Lay C og op od o1 o2) (ht : t ≠ 3 ∧ t ≠ 140) (h : TInv C t w0 W g vg vp vd b1 b2 pg pr dp) : TInv C t w0 (W.setCell ⟨g, o1, none⟩ (.bool x)) g vg vp vd x b2 pg pr dp :=
 ⟨blk_put h.bT o1 _ (L.s1 _ _ _ _ _ _), h.hT, Kd.R_set h.rg h.bT (fun q hq => by simp [Kd.int, Kd.scalar] at hq; subst hq; exact ht.1.symm) _ _, Kd.R_set h.rp h.bT (fun q hq => by simp [k140, Kd.iso, Kd.pair, Kd.string, Kd.scalar] at hq; subst hq; exact ht.2.symm) _ _,
  Kd.R_set h.rd h.bT (fun q hq => by simp [Kd.int, Kd.scalar] at hq; subst hq; exact ht.1.symm) _ _, h.ne, below_set h.bel h.hT⟩
theorem set2 (L : Lay C og op od o1 o2) (ht : t ≠ 3 ∧ t ≠ 140) (h : TInv C t w0 W g vg vp vd b1 b2 pg pr dp) : TInv C t w0 (W.setCell ⟨g, o2, none⟩ (.bool x)) g vg vp vd b1 x pg pr dp :=
 ⟨blk_put h.bT o2 _ (L.s2 _ _ _ _ _ _), h.hT, Kd.R_set h.rg h.bT (fun q hq => by simp [Kd.int, Kd.scalar] at hq; subst hq; exact ht.1.symm) _ _, Kd.R_set h.rp h.bT (fun q hq => by simp [k140, Kd.iso, Kd.pair, Kd.string, Kd.scalar] at hq; subst hq; exact ht.2.symm) _ _,
  Kd.R_set h.rd h.bT (fun q hq => by simp [Kd.int, Kd.scalar] at hq; subst hq; exact ht.1.symm) _ _, h.ne, below_set h.bel h.hT⟩
theorem TInv.pushPg (L : Lay C og op od o1 o2) (ht : t ≠ 3 ∧ t ≠ 140) (h : TInv C t w0 W g vg vp vd b1 b2 pg pr dp) {xs : List Int} (hr : Kd.R (Kd.int .i64) 3 W1 w0.heap.size (fun _ => True) v1 xs) (hb : Below w0.heap.size w0 W1) (hg : W.grownBy W1 vg.ownBlock)
  (hat : v1.ownBlock = vg.ownBlock ∨ ∃ b, v1.ownBlock = some b ∧ W.heap.size ≤ b) : TInv C t w0 (W1.setCell ⟨g, og, none⟩ v1) g v1 vp vd b1 b2 xs pr dp ∧ TFr W (W1.setCell ⟨g, og, none⟩ v1) g vg vp vd v1 vp vd := by
 have q := blk_grown h.bT hg (Kd.R_ne h.rg h.bT ht.1.symm)
 refine ⟨⟨blk_put q og v1 (L.sg _ _ _ _ _ _), h.hT, Kd.R_set hr q (fun q hq => by simp [Kd.int, Kd.scalar] at hq; subst hq; exact ht.1.symm) _ _, Kd.R_set (Kd.R_over' h.rp (Kd.R_typed h.rg) (by decide) hg) q (fun q hq => by simp [k140, Kd.iso, Kd.pair, Kd.string, Kd.scalar] at hq; subst hq; exact ht.2.symm) _ _,
  Kd.R_set (R_other h.rd h.ne hg) q (fun q hq => by simp [Kd.int, Kd.scalar] at hq; subst hq; exact ht.1.symm) _ _, ne_new h.rd h.ne hat, below_set hb h.hT⟩, ?_⟩
 exact ⟨by simpa [World.setCell] using hg.size, fun i hi hgi h1 h2 h3 => (Below.heap_setCell W1 ⟨g, og, none⟩ v1 i hgi).trans (hg.block i hi h1), hat, .inl rfl, .inl rfl⟩
theorem TInv.pushDp (L : Lay C og op od o1 o2) (ht : t ≠ 3 ∧ t ≠ 140) (h : TInv C t w0 W g vg vp vd b1 b2 pg pr dp) {xs : List Int} (hr : Kd.R (Kd.int .i64) 3 W1 w0.heap.size (fun _ => True) v1 xs) (hb : Below w0.heap.size w0 W1) (hg : W.grownBy W1 vd.ownBlock)
  (hat : v1.ownBlock = vd.ownBlock ∨ ∃ b, v1.ownBlock = some b ∧ W.heap.size ≤ b) : TInv C t w0 (W1.setCell ⟨g, od, none⟩ v1) g vg vp v1 b1 b2 pg pr xs ∧ TFr W (W1.setCell ⟨g, od, none⟩ v1) g vg vp vd vg vp v1 := by
 have q := blk_grown h.bT hg (Kd.R_ne h.rd h.bT ht.1.symm)
 refine ⟨⟨blk_put q od v1 (L.sd _ _ _ _ _ _), h.hT, Kd.R_set (R_other h.rg (nerow_symm h.ne) hg) q (fun q hq => by simp [Kd.int, Kd.scalar] at hq; subst hq; exact ht.1.symm) _ _, Kd.R_set (Kd.R_over' h.rp (Kd.R_typed h.rd) (by decide) hg) q (fun q hq => by simp [k140, Kd.iso, Kd.pair, Kd.string, Kd.scalar] at hq; subst hq; exact ht.2.symm) _ _,
  Kd.R_set hr q (fun q hq => by simp [Kd.int, Kd.scalar] at hq; subst hq; exact ht.1.symm) _ _, nerow_symm (ne_new h.rg (nerow_symm h.ne) hat), below_set hb h.hT⟩, ?_⟩
 exact ⟨by simpa [World.setCell] using hg.size, fun i hi hgi h1 h2 h3 => (Below.heap_setCell W1 ⟨g, od, none⟩ v1 i hgi).trans (hg.block i hi h3), .inl rfl, .inl rfl, hat⟩
theorem TInv.pushPr (L : Lay C og op od o1 o2) (ht : t ≠ 3 ∧ t ≠ 140) (h : TInv C t w0 W g vg vp vd b1 b2 pg pr dp) {xs : List S140} (hr : Kd.R k140 140 W1 w0.heap.size (fun _ => True) v1 xs) (hb : Below w0.heap.size w0 W1) (hg : W.grownBy W1 vp.ownBlock)
  (hat : v1.ownBlock = vp.ownBlock ∨ ∃ b, v1.ownBlock = some b ∧ W.heap.size ≤ b) : TInv C t w0 (W1.setCell ⟨g, op, none⟩ v1) g vg v1 vd b1 b2 pg xs dp ∧ TFr W (W1.setCell ⟨g, op, none⟩ v1) g vg vp vd vg v1 vd := by
 have q := blk_grown h.bT hg (Kd.R_ne h.rp h.bT ht.2.symm)
 refine ⟨⟨blk_put q op v1 (L.sp _ _ _ _ _ _), h.hT, Kd.R_set (Kd.R_over' h.rg (Kd.R_typed h.rp) (by decide) hg) q (fun q hq => by simp [Kd.int, Kd.scalar] at hq; subst hq; exact ht.1.symm) _ _, Kd.R_set hr q (fun q hq => by simp [k140, Kd.iso, Kd.pair, Kd.string, Kd.scalar] at hq; subst hq; exact ht.2.symm) _ _,
  Kd.R_set (Kd.R_over' h.rd (Kd.R_typed h.rp) (by decide) hg) q (fun q hq => by simp [Kd.int, Kd.scalar] at hq; subst hq; exact ht.1.symm) _ _, h.ne, below_set hb h.hT⟩, ?_⟩
 exact ⟨by simpa [World.setCell] using hg.size, fun i hi hgi h1 h2 h3 => (Below.heap_setCell W1 ⟨g, op, none⟩ v1 i hgi).trans (hg.block i hi h2), .inl rfl, hat, .inl rfl⟩
theorem R_fr {α : Type} {f : α → Value} {h1 : ∀ x, (f x).oneCell' = true} {e base : Nat} {v : Value} {xs : List α} {cs : Array Value} (hf : TFr W W' g vg vp vd vg' vp' vd') (h : Kd.R (Kd.scalar f h1) e W base (fun _ => True) v xs) (hg : W.heap[g]? = some (.cells cs t (0, 0))) (hte : e ≠ t) (n1 : NeRow v vg) (n2 : NeRow v vp) (n3 : NeRow v vd) : Kd.R (Kd.scalar f h1) e W' base (fun _ => True) v xs :=
 Kd.R_mono (Kd.R_step (ok := fun k => v.ownBlock = some k) (w1 := W') ⟨fun k hk => hk, h.2⟩ (fun k hk hlt => hf.keep k hlt (fun e' => Kd.R_ne h hg hte (by rw [hk, e'])) (fun e' => n1 k hk e'.symm) (fun e' => n2 k hk e'.symm) (fun e' => n3 k hk e'.symm))) (fun _ _ => trivial)
theorem ne_types {α β : Type} {d : Kd α} {d' : Kd β} {e e' base base' : Nat} {ok ok' : Nat → Prop} {v u : Value} {xs : List α} {ys : List β} (h : Kd.R d e W base ok v xs) (h' : Kd.R d' e' W base' ok' u ys) (hne : e ≠ e') : NeRow v u := by
 intro k hk hu
 obtain ⟨c1, h1⟩ := Kd.R_typed h k hk
 obtain ⟨c2, h2⟩ := Kd.R_typed h' k hu
 rw [h1] at h2
 injection h2 with h2
 injection h2 with _ h2
 exact hne h2
theorem ne_at {α : Type} {d : Kd α} {e base : Nat} {ok : Nat → Prop} {v u u' : Value} {xs : List α} (h : Kd.R d e W base ok v xs) (hn : NeRow v u) (hat : u'.ownBlock = u.ownBlock ∨ ∃ b, u'.ownBlock = some b ∧ W.heap.size ≤ b) : NeRow v u' := nerow_symm (ne_new h (nerow_symm hn) hat)
theorem ne_fresh {α β : Type} {d : Kd α} {d' : Kd β} {e e' base : Nat} {ok ok' : Nat → Prop} {v u : Value} {xs : List α} {ys : List β} (h : Kd.R d e W' W.heap.size ok v xs) (h' : Kd.R d' e' W base ok' u ys) : NeRow v u := by
 intro k hk hu
 obtain ⟨i1, o1⟩ := Kd.R_own h
 obtain ⟨i2, o2⟩ := Kd.R_own h'
 have := own_base o1 k hk
 have := own_lt o2 k hu
 omega
end
def encP (x : S140) : Value := .agg #[.string x.f0, .string x.f1]
theorem rd_nat (xs : List Int) (k : Nat) (hk : k < xs.length) : rd xs (k : Int) = xs[k] := by
 simp [rd, List.getD_eq_getElem?_getD, List.getElem?_eq_getElem hk]
theorem IndexFunc_pair (g : Nat) (lb : Array Value) (p : S140 → Bool) (eg : ∀ args w, (callFunc g args).run Try.prog w = .ok (.enter g args) w) (A : Option Addr) (c : Nat) (xs : List S140) (w : World)
  (hr : Kd.C k140 w A xs.length xs) (hp : PredB g lb encP p w) :
  Calls Try.prog 145 #[.slice A xs.length c, .func (.func g) #[] lb] w fun e w' => e = .returned (.int .i64 (idxF p xs)) ∧ Below w.heap.size w w' := by
 have HR := Aside0.mk hr
 have HP := Aside0.mk hp
 have hbig := hr.2.1
 clear hr hp
 go_enter Try.func145, Try.ntmps145
 go_wp2
 go_loopg [5, 8] xs.length (fun gg _ s8 wr => ∃ kk : Nat, kk ≤ xs.length ∧ xs.length - kk ≤ gg ∧ s8 = .int .i64 kk ∧ Aside0 (Below w.heap.size w wr) ∧ Aside0 (∀ j (hj : j < xs.length), j < kk → p xs[j] = false))
 case atStart => exact ⟨0, Nat.zero_le _, by omega, rfl, ⟨Below.refl _ w⟩, ⟨fun j hj h => absurd h (Nat.not_lt_zero _)⟩⟩
 case round =>
  obtain ⟨kk, hkk, hg, rfl, BW, A0⟩ := hrel
  by_cases hlt : kk < xs.length
  ·have hltz : (kk : Int) < (xs.length : Int) := by omega
   obtain ⟨ad, rfl, hcell, hcell1⟩ := at_T140 (Kd.C_below HR.out BW.out) (kk : Int) (by omega) hltz
   rw [rd_T140_nat _ _ hlt, Int.toNat_natCast] at hcell hcell1
   have hcall := HP.out wr xs[kk] BW.out
   obtain ⟨y, hy⟩ : ∃ y, xs[kk] = y := ⟨_, rfl⟩
   rw [hy] at hcell hcell1 hcall
   have B := Aside0.mk hy
   clear hy
   unfold encP at hcall
   cases hq : p y with
   | true =>
    rw [hq] at hcall
    go_wp2_with fail
    ((with_reducible refine hcall.mono ?_); rintro e w' ⟨rfl, hb'⟩)
    go_wp2
    go_ret
    refine ⟨?_, hb'⟩
    rw [idxF_hit hlt (by rw [B.out]; exact hq) A0.out]
    rfl
   | false =>
    rw [hq] at hcall
    go_wp2_with fail
    ((with_reducible refine hcall.mono ?_); rintro e w' ⟨rfl, hb'⟩)
    go_wp2
    go_roundg (xs.length - (kk + 1))
    case measure => omega
    case rel =>
     have hw : wrap64 ((kk : Int) + 1) = ((kk + 1 : Nat) : Int) := by unfold wrap64; omega
     refine ⟨kk + 1, by omega, by omega, by first | rfl | exact congrArg (Value.int .i64) hw, ⟨hb'⟩, ⟨fun j hj hjk => ?_⟩⟩
     by_cases e : j = kk
     ·subst e
      rw [B.out]; exact hq
     ·exact A0.out j hj (by omega)
  ·have hltz : ¬ (kk : Int) < (xs.length : Int) := by omega
   have : kk = xs.length := by omega
   subst this
   go_wp2
   go_ret
   refine ⟨?_, BW.out⟩
   rw [idxF_miss (fun j hj => A0.out j hj hj)]
   rfl
theorem ContainsFunc_pair (g : Nat) (lb : Array Value) (p : S140 → Bool) (eg : ∀ args w, (callFunc g args).run Try.prog w = .ok (.enter g args) w) (A : Option Addr) (c : Nat) (xs : List S140) (w : World)
  (hr : Kd.C k140 w A xs.length xs) (hp : PredB g lb encP p w) :
  Calls Try.prog 175 #[.slice A xs.length c, .func (.func g) #[] lb] w fun e w' => e = .returned (.bool (xs.any p)) ∧ Below w.heap.size w w' := by
 rw [← idxF_any]
 have HI := Aside0.mk (IndexFunc_pair g lb p eg A c xs w hr hp)
 clear hr hp
 generalize idxF p xs = r at HI ⊢
 go_enter Try.func175, Try.ntmps175
 go_wp2_with fail
 ((with_reducible refine HI.out.mono ?_); rintro e w' ⟨rfl, hb'⟩)
 go_wp2
 go_ret
 exact ⟨rfl, hb'⟩
theorem enters176 : ∀ args w, (callFunc 176 args).run Try.prog w = .ok (.enter 176 args) w := enters_of Try.func176 (by kernel_rfl) rfl
theorem pred176 (key : ByteArray) (B : Nat) (w : World) (hB : B < w.heap.size) (hcell : w.cell? ⟨B, 0, none⟩ = some (.string key)) :
  PredB 176 #[.pointer (some ⟨B, 0, none⟩)] encP (fun x => Op.bytesLess x.f0.toList key.toList) w := fun W x hb => by
 have hc : W.cell? ⟨B, 0, none⟩ = some (.string key) := (hb.cell (p := ⟨B, 0, none⟩) hB).trans hcell
 have hBW : B < W.heap.size := Nat.lt_of_lt_of_le hB hb.size
 have hne : B ≠ W.heap.size := by omega
 show Calls Try.prog 176 #[.agg #[.string x.f0, .string x.f1], .pointer (some ⟨B, 0, none⟩)] W _
 go_enter Try.func176, Try.ntmps176
 go_wp2
 all_goals (go_ret; exact ⟨by first | rfl | simp_all, hb.alloc hb.size _⟩)
theorem keyBelow_calls (A : Option Addr) (c : Nat) (xs : List S140) (key : ByteArray) (r : Bool) (w : World) (hr : Kd.C k140 w A xs.length xs) (h : (xs.any (fun x => Op.bytesLess x.f0.toList key.toList)) = r) :
  Calls Try.prog 161 #[.slice A xs.length c, .string key] w fun e w' => e = .returned (.bool r) ∧ Below w.heap.size w w' := by
 subst h
 have HI := Aside0.mk (ContainsFunc_pair 176 #[.pointer (some ⟨w.heap.size, 0, none⟩)] _ enters176 A c xs (w.alloc (.cells #[.string key] 9)) (Kd.C_below hr (below_alloc (Below.refl _ _) _)) (pred176 key w.heap.size _ (by simp) (by simp)))
 clear hr
 generalize (xs.any (fun x => Op.bytesLess x.f0.toList key.toList)) = r at HI ⊢
 go_enter Try.func161, Try.ntmps161
 go_wp2_with fail
 ((with_reducible refine HI.out.mono ?_); rintro e w' ⟨rfl, hb'⟩)
 go_wp2
 go_ret
 exact ⟨rfl, below_step (below_alloc (Below.refl w.heap.size w) _) hb'⟩
theorem enters177 : ∀ args w, (callFunc 177 args).run Try.prog w = .ok (.enter 177 args) w := enters_of Try.func177 (by kernel_rfl) rfl
theorem pred177 (key : ByteArray) (B : Nat) (w : World) (hB : B < w.heap.size) (hcell : w.cell? ⟨B, 0, none⟩ = some (.string key)) :
  PredB 177 #[.pointer (some ⟨B, 0, none⟩)] encP (fun x => !(Op.bytesLess x.f0.toList key.toList)) w := fun W x hb => by
 have hc : W.cell? ⟨B, 0, none⟩ = some (.string key) := (hb.cell (p := ⟨B, 0, none⟩) hB).trans hcell
 have hBW : B < W.heap.size := Nat.lt_of_lt_of_le hB hb.size
 have hne : B ≠ W.heap.size := by omega
 show Calls Try.prog 177 #[.agg #[.string x.f0, .string x.f1], .pointer (some ⟨B, 0, none⟩)] W _
 go_enter Try.func177, Try.ntmps177
 go_wp2
 all_goals (go_ret; exact ⟨by first | rfl | simp_all, hb.alloc hb.size _⟩)
theorem keyFrom_calls (A : Option Addr) (c : Nat) (xs : List S140) (key : ByteArray) (r : Bool) (w : World) (hr : Kd.C k140 w A xs.length xs) (h : (xs.any (fun x => !(Op.bytesLess x.f0.toList key.toList))) = r) :
  Calls Try.prog 162 #[.slice A xs.length c, .string key] w fun e w' => e = .returned (.bool r) ∧ Below w.heap.size w w' := by
 subst h
 have HI := Aside0.mk (ContainsFunc_pair 177 #[.pointer (some ⟨w.heap.size, 0, none⟩)] _ enters177 A c xs (w.alloc (.cells #[.string key] 9)) (Kd.C_below hr (below_alloc (Below.refl _ _) _)) (pred177 key w.heap.size _ (by simp) (by simp)))
 clear hr
 generalize (xs.any (fun x => !(Op.bytesLess x.f0.toList key.toList))) = r at HI ⊢
 go_enter Try.func162, Try.ntmps162
 go_wp2_with fail
 ((with_reducible refine HI.out.mono ?_); rintro e w' ⟨rfl, hb'⟩)
 go_wp2
 go_ret
 exact ⟨rfl, below_step (below_alloc (Below.refl w.heap.size w) _) hb'⟩
def impl_isPage.f (l0_0 : List ByteArray) (l0_1 : List (S189)) (a1 : Int) : Option (Bool) := (impl_in.f a1 0 (wrap64 ((l0_0.length : Int) - 1))).bind fun t227 => (some t227)
theorem impl_isPage.calls (A0_0 : Option Addr) (c0_0 : Nat) (l0_0 : List ByteArray) (A0_1 : Option Addr) (c0_1 : Nat) (l0_1 : List (S189)) (a1 : Int) (r : Bool) (w : World) (hr0_0 : Kd.C Kd.string w A0_0 l0_0.length l0_0) (hc0_0 : l0_0.length ≤ c0_0) (hr0_1 : Kd.C k189 w A0_1 l0_1.length l0_1) (hc0_1 : l0_1.length ≤ c0_1) (h : impl_isPage.f l0_0 l0_1 a1 = some r) :
  Calls Try.prog 174 #[.agg #[.slice A0_0 l0_0.length c0_0, .slice A0_1 l0_1.length c0_1], .int .i64 a1] w fun e w' => e = .returned (.bool r) ∧ Below w.heap.size w w' := by
 have hu41 := Try.underlying41
 have HR0_0 := Aside0.mk hr0_0
 have HC0_0 := Aside0.mk hc0_0
 clear hr0_0 hc0_0
 have HR0_1 := Aside0.mk hr0_1
 have HC0_1 := Aside0.mk hc0_1
 clear hr0_1 hc0_1
 have HB := Aside0.mk (Below.refl w.heap.size w)
 have H : ((impl_in.f a1 0 (wrap64 ((l0_0.length : Int) - 1))).bind fun t227 => (some t227)) = some r := h
 clear h
 replace H := Option.bind_eq_some_iff.mp H
 obtain ⟨t227, A30, H⟩ := H
 replace H : (some t227) = some r := H
 have A3 := Aside0.mk A30
 clear A30
 obtain rfl := Option.some.inj H
 go_enter Try.func174, Try.ntmps174
 go_wp2_with (first | ((with_reducible refine gate_dst (N := 2) rfl ?_); refine box_event ?hg (N := 2) ?hd (cs := #[.slice A0_0 l0_0.length c0_0, .slice A0_1 l0_1.length c0_1]) (t := 41) ?hr ?_; (case hd => rfl); (case hg => rfl); (case hr => first | (go_simp; done) | (go_simp; rfl)); intro gb226 hg w4 hbox hb; have n0_ := Aside0.mk (below_step (by repeat (first | (with_reducible first | exact HB.out | apply below_alloc | apply pw_below_drewN | apply below_drew1) | exact HB.out)) hb); have n1_ := Aside0.mk (hbox); have n2_ := Aside0.mk ((by rw [hg]; exact (below_size (by repeat (first | (with_reducible first | exact HB.out | apply below_alloc | apply pw_below_drewN | apply below_drew1) | exact HB.out))) : w.heap.size ≤ gb226)); have n3_ := Aside0.mk ((by rw [hg]; exact (below_size (by repeat (first | (with_reducible first | exact HB.out | apply below_alloc | apply pw_below_drewN | apply below_drew1) | exact HB.out))) : w.heap.size ≤ gb226)); clear HB; have HB := n0_; have BK226 := n1_; have GW226 := n2_; have GE226 := n3_; clear n0_ n1_ n2_ n3_; clear hb hbox hg; have hcz5_0 : w4.cell? ⟨gb226, 0, none⟩ = some (.slice A0_0 l0_0.length c0_0) := (blk_cell BK226.out 0).trans rfl; have hcz5_1 : w4.cell? ⟨gb226, 1, none⟩ = some (.slice A0_1 l0_1.length c0_1) := (blk_cell BK226.out 1).trans rfl; have hfz5_0 := blk_frozen BK226.out 0; have hfz5_1 := blk_frozen BK226.out 1) | ((with_reducible refine gate_callee (f := 73) rfl ?_); refine goesL_ (some 10) rfl rfl Try.func73 (by kernel_rfl) rfl #[.int .i64 a1, .int .i64 0, .int .i64 (wrap64 ((l0_0.length : Int) - 1))] rfl (by (try simp only [List.map_toArray, List.map_cons, List.map_nil]); first | done | rfl | (simp only [List.length_drop, List.length_take]; rfl)) ?_; (with_reducible refine (impl_in.calls a1 0 (wrap64 ((l0_0.length : Int) - 1)) t227 _ A3.out).mono ?_); rintro e w' ⟨rfl, ⟨nd, rfl⟩⟩; refine ⟨_, rfl, ?_⟩))
 go_ret
 exact ⟨by first | rfl | (simp [errW_none, errW_some] <;> rfl) | (simp [*, errW_none, errW_some] <;> rfl), by repeat (first | (with_reducible first | exact HB.out | apply below_alloc | apply pw_below_drewN | apply below_drew1 | refine below_set ?_ GE226.out) | exact HB.out)⟩
def impl_ReadPage.l0 : Nat → Int → Int → List ByteArray → List (S189) → Option (ByteArray)
 | 0, _, _, _, _ => none
 | k + 1, x1, x5, x229000, x229001 => if x5 ≥ 0 then (if 0 ≤ x5 then (if x5 < (x229001.length : Int) then (if ((rd_T189 x229001 x5).f0) = x1 then (some ((rd_T189 x229001 x5).f1)) else (impl_ReadPage.l0 k x1 (wrap64 (x5 - 1)) x229000 x229001)) else (none)) else (none)) else (if 0 ≤ x1 then (if x1 < (x229000.length : Int) then (some (rdOf ByteArray.empty x229000 x1)) else (none)) else (none))
def impl_ReadPage.f (k : Nat) (l0_0 : List ByteArray) (l0_1 : List (S189)) (a1 : Int) : Option (ByteArray) := (impl_isPage.f l0_0 l0_1 a1).bind fun t229 => (if t229 = true then (impl_ReadPage.l0 k a1 (wrap64 ((l0_1.length : Int) - 1)) l0_0 l0_1) else (some (⟨#[]⟩ : ByteArray)))
theorem impl_ReadPage.mono_l : ∀ k, (∀ y0 y1 y2 y3, LeO (impl_ReadPage.l0 k y0 y1 y2 y3) (impl_ReadPage.l0 (k + 1) y0 y1 y2 y3))
 | 0 => fun _ _ _ _ r h => by simp [impl_ReadPage.l0] at h
 | k + 1 => by
  have ih0 := impl_ReadPage.mono_l k
  ·intro y0 y1 y2 y3
   unfold impl_ReadPage.l0
   repeat' first
   | (with_reducible exact ih0 _ _ _ _)
   | (with_reducible exact LeO.refl _)
   | (with_reducible exact LeO.none _)
   | (with_reducible refine LeO.ite ?_ ?_)
   | (with_reducible refine LeO.bind ?_ (fun _ => ?_))
   | exact ih0 _ _ _ _
theorem impl_ReadPage.mono : ∀ a0 a1 a2 k, LeO (impl_ReadPage.f k a0 a1 a2) (impl_ReadPage.f (k + 1) a0 a1 a2) := by
 intro a0 a1 a2 k
 have ih0 := impl_ReadPage.mono_l k
 unfold impl_ReadPage.f
 repeat' first
   | (with_reducible exact ih0 _ _ _ _)
   | (with_reducible exact LeO.refl _)
   | (with_reducible exact LeO.none _)
   | (with_reducible refine LeO.ite ?_ ?_)
   | (with_reducible refine LeO.bind ?_ (fun _ => ?_))
   | exact ih0 _ _ _ _
theorem impl_ReadPage.calls (k : Nat) (A0_0 : Option Addr) (c0_0 : Nat) (l0_0 : List ByteArray) (A0_1 : Option Addr) (c0_1 : Nat) (l0_1 : List (S189)) (a1 : Int) (r : ByteArray) (w : World) (hr0_0 : Kd.C Kd.string w A0_0 l0_0.length l0_0) (hc0_0 : l0_0.length ≤ c0_0) (hr0_1 : Kd.C k189 w A0_1 l0_1.length l0_1) (hc0_1 : l0_1.length ≤ c0_1) (h : impl_ReadPage.f k l0_0 l0_1 a1 = some r) :
  Calls Try.prog 160 #[.agg #[.slice A0_0 l0_0.length c0_0, .slice A0_1 l0_1.length c0_1], .int .i64 a1] w fun e w' => e = .returned (.string r) ∧ Below w.heap.size w w' := by
 have hu41 := Try.underlying41
 have HR0_0 := Aside0.mk hr0_0
 have HC0_0 := Aside0.mk hc0_0
 clear hr0_0 hc0_0
 have HR0_1 := Aside0.mk hr0_1
 have HC0_1 := Aside0.mk hc0_1
 clear hr0_1 hc0_1
 have HB := Aside0.mk (Below.refl w.heap.size w)
 have H : ((impl_isPage.f l0_0 l0_1 a1).bind fun t229 => (if t229 = true then (impl_ReadPage.l0 k a1 (wrap64 ((l0_1.length : Int) - 1)) l0_0 l0_1) else (some (⟨#[]⟩ : ByteArray)))) = some r := h
 clear h
 replace H := Option.bind_eq_some_iff.mp H
 obtain ⟨t229, A30, H⟩ := H
 replace H : (if t229 = true then (impl_ReadPage.l0 k a1 (wrap64 ((l0_1.length : Int) - 1)) l0_0 l0_1) else (some (⟨#[]⟩ : ByteArray))) = some r := H
 have A3 := Aside0.mk A30
 clear A30
 by_cases c4 : t229 = true
 ·subst c4
  have H1 : (impl_ReadPage.l0 k a1 (wrap64 ((l0_1.length : Int) - 1)) l0_0 l0_1) = some r := by rw [if_pos rfl] at H; exact H
  clear H
  have H := H1
  clear H1
  have H' := Aside0.mk H
  clear H
  go_enter Try.func160, Try.ntmps160
  go_wp2_with (first | ((with_reducible refine gate_dst (N := 2) rfl ?_); refine box_event ?hg (N := 2) ?hd (cs := #[.slice A0_0 l0_0.length c0_0, .slice A0_1 l0_1.length c0_1]) (t := 41) ?hr ?_; (case hd => rfl); (case hg => rfl); (case hr => first | (go_simp; done) | (go_simp; rfl)); intro gb228 hg w5 hbox hb; have n0_ := Aside0.mk (below_step (by repeat (first | (with_reducible first | exact HB.out | apply below_alloc | apply pw_below_drewN | apply below_drew1) | exact HB.out)) hb); have n1_ := Aside0.mk (hbox); have n2_ := Aside0.mk ((by rw [hg]; exact (below_size (by repeat (first | (with_reducible first | exact HB.out | apply below_alloc | apply pw_below_drewN | apply below_drew1) | exact HB.out))) : w.heap.size ≤ gb228)); have n3_ := Aside0.mk ((by rw [hg]; exact (below_size (by repeat (first | (with_reducible first | exact HB.out | apply below_alloc | apply pw_below_drewN | apply below_drew1) | exact HB.out))) : w.heap.size ≤ gb228)); clear HB; have HB := n0_; have BK228 := n1_; have GW228 := n2_; have GE228 := n3_; clear n0_ n1_ n2_ n3_; clear hb hbox hg; have hcz6_0 : w5.cell? ⟨gb228, 0, none⟩ = some (.slice A0_0 l0_0.length c0_0) := (blk_cell BK228.out 0).trans rfl; have hcz6_1 : w5.cell? ⟨gb228, 1, none⟩ = some (.slice A0_1 l0_1.length c0_1) := (blk_cell BK228.out 1).trans rfl; have hfz6_0 := blk_frozen BK228.out 0; have hfz6_1 := blk_frozen BK228.out 1) | ((with_reducible refine gate_callee (f := 174) rfl ?_); refine goesL_ (some 8) rfl rfl Try.func174 (by kernel_rfl) rfl #[.agg #[.slice A0_0 l0_0.length c0_0, .slice A0_1 l0_1.length c0_1], .int .i64 a1] rfl (by (try simp only [List.map_toArray, List.map_cons, List.map_nil]); first | done | rfl | (simp only [List.length_drop, List.length_take]; rfl)) ?_; (with_reducible refine (impl_isPage.calls _ _ l0_0 _ _ l0_1 a1 true _ ?side1 ?side2 ?side3 ?side4 A3.out).mono ?_); (case side1 => repeat (first | exact (Kd.C_below HR0_0.out HB.out) | (with_reducible refine Kd.C_alloc ?_ _) | (with_reducible refine Kd.C_drewN ?_ _) | (with_reducible refine Kd.C_drew ?_))); (case side2 => exact HC0_0.out); (case side3 => repeat (first | exact (Kd.C_below HR0_1.out HB.out) | (with_reducible refine Kd.C_alloc ?_ _) | (with_reducible refine Kd.C_drewN ?_ _) | (with_reducible refine Kd.C_drew ?_))); (case side4 => exact HC0_1.out); rintro e w7 ⟨rfl, hb⟩; refine ⟨_, rfl, ?_⟩; have n0_ := Aside0.mk (blk_below (g := gb228) (o := .cells #[.slice A0_0 l0_0.length c0_0, .slice A0_1 l0_1.length c0_1] 41 (0, 0)) (by (with_reducible repeat (first | refine blk_drewN ?_ _ | refine blk_drew ?_ | refine blk_alloc ?_ _)); exact BK228.out) hb); have n1_ := Aside0.mk (below_step (by repeat (first | (with_reducible first | exact HB.out | apply below_alloc | apply pw_below_drewN | apply below_drew1 | refine below_set ?_ GE228.out) | exact HB.out)) hb); clear BK228; clear HB; have BK228 := n0_; have HB := n1_; clear n0_ n1_; (try clear hb); (try clear hb2); (try clear hk); (try clear hi); have hcz8_0 : w7.cell? ⟨gb228, 0, none⟩ = some (.slice A0_0 l0_0.length c0_0) := (blk_cell BK228.out 0).trans rfl; have hcz8_1 : w7.cell? ⟨gb228, 1, none⟩ = some (.slice A0_1 l0_1.length c0_1) := (blk_cell BK228.out 1).trans rfl; have hfz8_0 := blk_frozen BK228.out 0; have hfz8_1 := blk_frozen BK228.out 1))
  go_loopg [5] k (fun kq v5 w' => ∃ (x5_1 : Int), v5 = .int .i64 x5_1 ∧ Aside0 (impl_ReadPage.l0 kq a1 x5_1 l0_0 l0_1 = some r) ∧ Aside0 (kq ≤ k) ∧ Aside0 (w'.heap[gb228]? = some (.cells #[(.slice A0_0 l0_0.length c0_0), (.slice A0_1 l0_1.length c0_1)] 41 (0, 0))) ∧ Aside0 (Below w.heap.size w w'))
  case atStart => exact ⟨(wrap64 ((l0_1.length : Int) - 1)), (by first | rfl | (simp; done) | (simp [*]; done)), H', ⟨Nat.le_refl _⟩, ⟨by (with_reducible repeat (first | refine blk_drewN ?_ _ | refine blk_drew ?_ | refine blk_alloc ?_ _)); exact BK228.out⟩, ⟨by repeat (first | (with_reducible first | exact HB.out | apply below_alloc | apply pw_below_drewN | apply below_drew1 | refine below_set ?_ GE228.out) | exact HB.out)⟩⟩
  case round =>
   clear H'
   try clear c4
   try clear hcz6_0
   try clear hcz6_1
   try clear hcz8_0
   try clear hcz8_1
   try clear hfz6_0
   try clear hfz6_1
   try clear hfz8_0
   try clear hfz8_1
   obtain ⟨x5_1, rfl, HA, HK1, BK228, HB⟩ := hrel
   cases gk with
   | zero => exact absurd HA.out (by simp [impl_ReadPage.l0])
   | succ k1 =>
    have H := HA.out
    clear HA
    simp only [impl_ReadPage.l0] at H
    by_cases c9 : x5_1 ≥ 0
    ·rw [if_pos c9] at H
     have c9b0 : decide (0 ≤ x5_1) = true := decide_eq_true c9
     clear c9
     by_cases c10 : 0 ≤ x5_1
     ·rw [if_pos c10] at H
      have c10b0 : decide (0 ≤ x5_1) = true := decide_eq_true c10
      clear c10
      by_cases c11 : x5_1 < (l0_1.length : Int)
      ·rw [if_pos c11] at H
       have c11b0 : decide (x5_1 < (l0_1.length : Int)) = true := decide_eq_true c11
       clear c11
       by_cases c12 : ((rd_T189 l0_1 x5_1).f0) = a1
       ·rw [if_pos c12] at H
        have c12b0 : (((rd_T189 l0_1 x5_1).f0) == a1) = true := beq_iff_eq.mpr c12
        have c12b1 : (((rd_T189 l0_1 x5_1).f0) != a1) = false := bne_eq_false_iff_eq.mpr c12
        clear c12
        obtain rfl := Option.some.inj H
        have hcz13_0 : wr.cell? ⟨gb228, 0, none⟩ = some (.slice A0_0 l0_0.length c0_0) := (blk_cell BK228.out 0).trans rfl
        have hcz13_1 : wr.cell? ⟨gb228, 1, none⟩ = some (.slice A0_1 l0_1.length c0_1) := (blk_cell BK228.out 1).trans rfl
        have hfz13_0 := blk_frozen BK228.out 0
        have hfz13_1 := blk_frozen BK228.out 1
        have p230 : 0 ≤ (x5_1 : Int) := of_decide_eq_true (by with_reducible assumption)
        have q230 : x5_1 < (l0_1.length : Int) := of_decide_eq_true (by with_reducible assumption)
        obtain ⟨ad230, e230, hx230_0, hx230_1⟩ := at_T189 HR0_1.out x5_1 p230 q230
        cases e230
        replace hx230_0 := (HB.out.cell (World.block_lt_of_cell? w _ hx230_0)).trans hx230_0
        replace hx230_1 := (HB.out.cell (World.block_lt_of_cell? w _ hx230_1)).trans hx230_1
        replace p230 := eq_true p230
        replace q230 := eq_true q230
        have p231 : 0 ≤ (x5_1 : Int) := of_decide_eq_true (by with_reducible assumption)
        have q231 : x5_1 < (l0_1.length : Int) := of_decide_eq_true (by with_reducible assumption)
        obtain ⟨ad231, e231, hx231_0, hx231_1⟩ := at_T189 HR0_1.out x5_1 p231 q231
        obtain rfl : ad230 = ad231 := (by injection e231)
        replace hx231_0 := (HB.out.cell (World.block_lt_of_cell? w _ hx231_0)).trans hx231_0
        replace hx231_1 := (HB.out.cell (World.block_lt_of_cell? w _ hx231_1)).trans hx231_1
        replace p231 := eq_true p231
        replace q231 := eq_true q231
        go_wp2
        go_ret
        exact ⟨by first | rfl | (simp [errW_none, errW_some] <;> rfl) | (simp [*, errW_none, errW_some] <;> rfl), by repeat (first | (with_reducible first | exact HB.out | apply below_alloc | apply pw_below_drewN | apply below_drew1 | refine below_set ?_ GE228.out) | exact HB.out)⟩
       ·rw [if_neg c12] at H
        have c12b0 : (((rd_T189 l0_1 x5_1).f0) == a1) = false := beq_eq_false_iff_ne.mpr c12
        have c12b1 : (((rd_T189 l0_1 x5_1).f0) != a1) = true := bne_iff_ne.mpr c12
        have H' := Aside0.mk H
        clear H
        have hcz14_0 : wr.cell? ⟨gb228, 0, none⟩ = some (.slice A0_0 l0_0.length c0_0) := (blk_cell BK228.out 0).trans rfl
        have hcz14_1 : wr.cell? ⟨gb228, 1, none⟩ = some (.slice A0_1 l0_1.length c0_1) := (blk_cell BK228.out 1).trans rfl
        have hfz14_0 := blk_frozen BK228.out 0
        have hfz14_1 := blk_frozen BK228.out 1
        have p230 : 0 ≤ (x5_1 : Int) := of_decide_eq_true (by with_reducible assumption)
        have q230 : x5_1 < (l0_1.length : Int) := of_decide_eq_true (by with_reducible assumption)
        obtain ⟨ad230, e230, hx230_0, hx230_1⟩ := at_T189 HR0_1.out x5_1 p230 q230
        cases e230
        replace hx230_0 := (HB.out.cell (World.block_lt_of_cell? w _ hx230_0)).trans hx230_0
        replace hx230_1 := (HB.out.cell (World.block_lt_of_cell? w _ hx230_1)).trans hx230_1
        replace p230 := eq_true p230
        replace q230 := eq_true q230
        go_wp2
        go_roundg k1
        case measure => have := HK1.out; omega
        case rel => exact ⟨(wrap64 (x5_1 - 1)), (by first | rfl | (simp; done) | (simp [*]; done)), H', ⟨by have := HK1.out; omega⟩, ⟨by (with_reducible repeat (first | refine blk_drewN ?_ _ | refine blk_drew ?_ | refine blk_alloc ?_ _)); exact BK228.out⟩, ⟨by repeat (first | (with_reducible first | exact HB.out | apply below_alloc | apply pw_below_drewN | apply below_drew1 | refine below_set ?_ GE228.out) | exact HB.out)⟩⟩
      ·rw [if_neg c11] at H
       exact absurd H (by simp)
     ·rw [if_neg c10] at H
      exact absurd H (by simp)
    ·rw [if_neg c9] at H
     have c9b0 : decide (0 ≤ x5_1) = false := decide_eq_false c9
     clear c9
     by_cases c15 : 0 ≤ a1
     ·rw [if_pos c15] at H
      have c15b0 : decide (0 ≤ a1) = true := decide_eq_true c15
      clear c15
      by_cases c16 : a1 < (l0_0.length : Int)
      ·rw [if_pos c16] at H
       have c16b0 : decide (a1 < (l0_0.length : Int)) = true := decide_eq_true c16
       clear c16
       obtain rfl := Option.some.inj H
       have hcz17_0 : wr.cell? ⟨gb228, 0, none⟩ = some (.slice A0_0 l0_0.length c0_0) := (blk_cell BK228.out 0).trans rfl
       have hcz17_1 : wr.cell? ⟨gb228, 1, none⟩ = some (.slice A0_1 l0_1.length c0_1) := (blk_cell BK228.out 1).trans rfl
       have hfz17_0 := blk_frozen BK228.out 0
       have hfz17_1 := blk_frozen BK228.out 1
       have p232 : 0 ≤ (a1 : Int) := of_decide_eq_true (by with_reducible assumption)
       have q232 : a1 < (l0_0.length : Int) := of_decide_eq_true (by with_reducible assumption)
       obtain ⟨ad232, e232, hx232_0⟩ := Kd.at_string HR0_0.out a1 p232 q232
       cases e232
       replace hx232_0 := (HB.out.cell (World.block_lt_of_cell? w _ hx232_0)).trans hx232_0
       replace p232 := eq_true p232
       replace q232 := eq_true q232
       go_wp2
       go_ret
       exact ⟨by first | rfl | (simp [errW_none, errW_some] <;> rfl) | (simp [*, errW_none, errW_some] <;> rfl), by repeat (first | (with_reducible first | exact HB.out | apply below_alloc | apply pw_below_drewN | apply below_drew1 | refine below_set ?_ GE228.out) | exact HB.out)⟩
      ·rw [if_neg c16] at H
       exact absurd H (by simp)
     ·rw [if_neg c15] at H
      exact absurd H (by simp)
 ·replace c4 := Bool.eq_false_iff.mpr c4
  subst c4
  have H1 : (some (⟨#[]⟩ : ByteArray)) = some r := by rw [if_neg (show ¬ (false = true) by decide)] at H; exact H
  clear H
  have H := H1
  clear H1
  obtain rfl := Option.some.inj H
  go_enter Try.func160, Try.ntmps160
  go_wp2_with (first | ((with_reducible refine gate_dst (N := 2) rfl ?_); refine box_event ?hg (N := 2) ?hd (cs := #[.slice A0_0 l0_0.length c0_0, .slice A0_1 l0_1.length c0_1]) (t := 41) ?hr ?_; (case hd => rfl); (case hg => rfl); (case hr => first | (go_simp; done) | (go_simp; rfl)); intro gb228 hg w18 hbox hb; have n0_ := Aside0.mk (below_step (by repeat (first | (with_reducible first | exact HB.out | apply below_alloc | apply pw_below_drewN | apply below_drew1) | exact HB.out)) hb); have n1_ := Aside0.mk (hbox); have n2_ := Aside0.mk ((by rw [hg]; exact (below_size (by repeat (first | (with_reducible first | exact HB.out | apply below_alloc | apply pw_below_drewN | apply below_drew1) | exact HB.out))) : w.heap.size ≤ gb228)); have n3_ := Aside0.mk ((by rw [hg]; exact (below_size (by repeat (first | (with_reducible first | exact HB.out | apply below_alloc | apply pw_below_drewN | apply below_drew1) | exact HB.out))) : w.heap.size ≤ gb228)); clear HB; have HB := n0_; have BK228 := n1_; have GW228 := n2_; have GE228 := n3_; clear n0_ n1_ n2_ n3_; clear hb hbox hg; have hcz19_0 : w18.cell? ⟨gb228, 0, none⟩ = some (.slice A0_0 l0_0.length c0_0) := (blk_cell BK228.out 0).trans rfl; have hcz19_1 : w18.cell? ⟨gb228, 1, none⟩ = some (.slice A0_1 l0_1.length c0_1) := (blk_cell BK228.out 1).trans rfl; have hfz19_0 := blk_frozen BK228.out 0; have hfz19_1 := blk_frozen BK228.out 1) | ((with_reducible refine gate_callee (f := 174) rfl ?_); refine goesL_ (some 8) rfl rfl Try.func174 (by kernel_rfl) rfl #[.agg #[.slice A0_0 l0_0.length c0_0, .slice A0_1 l0_1.length c0_1], .int .i64 a1] rfl (by (try simp only [List.map_toArray, List.map_cons, List.map_nil]); first | done | rfl | (simp only [List.length_drop, List.length_take]; rfl)) ?_; (with_reducible refine (impl_isPage.calls _ _ l0_0 _ _ l0_1 a1 false _ ?side1 ?side2 ?side3 ?side4 A3.out).mono ?_); (case side1 => repeat (first | exact (Kd.C_below HR0_0.out HB.out) | (with_reducible refine Kd.C_alloc ?_ _) | (with_reducible refine Kd.C_drewN ?_ _) | (with_reducible refine Kd.C_drew ?_))); (case side2 => exact HC0_0.out); (case side3 => repeat (first | exact (Kd.C_below HR0_1.out HB.out) | (with_reducible refine Kd.C_alloc ?_ _) | (with_reducible refine Kd.C_drewN ?_ _) | (with_reducible refine Kd.C_drew ?_))); (case side4 => exact HC0_1.out); rintro e w20 ⟨rfl, hb⟩; refine ⟨_, rfl, ?_⟩; have n0_ := Aside0.mk (blk_below (g := gb228) (o := .cells #[.slice A0_0 l0_0.length c0_0, .slice A0_1 l0_1.length c0_1] 41 (0, 0)) (by (with_reducible repeat (first | refine blk_drewN ?_ _ | refine blk_drew ?_ | refine blk_alloc ?_ _)); exact BK228.out) hb); have n1_ := Aside0.mk (below_step (by repeat (first | (with_reducible first | exact HB.out | apply below_alloc | apply pw_below_drewN | apply below_drew1 | refine below_set ?_ GE228.out) | exact HB.out)) hb); clear BK228; clear HB; have BK228 := n0_; have HB := n1_; clear n0_ n1_; (try clear hb); (try clear hb2); (try clear hk); (try clear hi)))
  go_ret
  exact ⟨by first | rfl | (simp [errW_none, errW_some] <;> rfl) | (simp [*, errW_none, errW_some] <;> rfl), by repeat (first | (with_reducible first | exact HB.out | apply below_alloc | apply pw_below_drewN | apply below_drew1 | refine below_set ?_ GE228.out) | exact HB.out)⟩
end Go.Proofs.Ytapholbdjccapaa.PFnExactTreeOk
