import Derived.Test.YtapholbdjccapaaTD6
set_option maxHeartbeats 64000000
set_option maxRecDepth 100000
set_option linter.unusedVariables false
set_option linter.unusedSimpArgs false
namespace Go.Proofs.Ytapholbdjccapaa.PFnExactTreeOk
open Go.RowKit Go.Proofs.YtapholbdjccapaaW.PrintWords Go.Proofs.YtapholbdjccapaaW.PrintLast Go.Proofs.YtapholbdjccapaaW.PrintMore
attribute [local go_sem] max2_int min2_int max_two min_two max_three min_three max_four min_four
def NodePost (w : World) (n : S68) (ok : Bool) (e : Ending) (w' : World) : Prop :=
 ∃ A1 c1 A2 c2 A3 c3, e = .returned (.tuple #[.agg #[.bool n.f0, .slice A1 n.f1.length c1, .slice A2 n.f2.length c2, .slice A3 n.f3.length c3], .bool ok]) ∧
  Kd.R Kd.string 9 w' w.heap.size (fun _ => True) (.slice A1 n.f1.length c1) n.f1 ∧ Kd.R Kd.string 9 w' w.heap.size (fun _ => True) (.slice A2 n.f2.length c2) n.f2 ∧ Kd.R (Kd.int .i64) 3 w' w.heap.size (fun _ => True) (.slice A3 n.f3.length c3) n.f3 ∧ Below w.heap.size w w'
def impl_ReadNode.T8 : Bool × List (List Nat × List Nat) := (true, [([], []), ([0], [0]), ([], []), ([2], [2]), ([3], [3]), ([1, 4, 3], [1, 4]), ([0, 1, 2, 3, 4, 5], []), ([6, 5, 5, 0, 1, 2, 3, 4, 5], [5, 6])])
def impl_ReadNode.B8 : List Nat := [0, 1, 0, 4, 12, 31, 63, 127]
theorem impl_ReadNode.ok8_0 : regB (opsOf Try.f30 8) impl_ReadNode.T8 impl_ReadNode.B8 [7] [.p 0, .p 2, .t 1, .e 3, .e 4, .e 5, .p 6, .l 7] = true := by kernel_rfl
def impl_ReadNode.T10 : Bool × List (List Nat × List Nat) := (true, [([], []), ([0], [0]), ([], []), ([2], [2]), ([3], [3]), ([1, 4, 3], [1, 4]), ([0, 1, 2, 3, 4, 5], []), ([6, 5, 5, 0, 1, 2, 3, 4, 5], [5, 6])])
def impl_ReadNode.B10 : List Nat := [0, 1, 0, 4, 12, 31, 63, 127]
theorem impl_ReadNode.ok10_1 : regB (opsOf Try.f30 10) impl_ReadNode.T10 impl_ReadNode.B10 [7] [.p 0, .p 2, .t 1, .e 3, .e 4, .e 5, .p 6, .l 7] = true := by kernel_rfl
def impl_ReadNode.T11 : Bool × List (List Nat × List Nat) := (true, [([], []), ([0], [0]), ([], []), ([2], [2]), ([3], [3]), ([1, 4, 3], [1, 4]), ([0, 1, 2, 3, 4, 5], []), ([6, 5, 5, 0, 1, 2, 3, 4, 5], [5, 6])])
def impl_ReadNode.B11 : List Nat := [0, 1, 0, 4, 12, 31, 63, 127]
theorem impl_ReadNode.ok11_2 : regB (opsOf Try.f30 11) impl_ReadNode.T11 impl_ReadNode.B11 [7] [.p 0, .p 2, .t 1, .e 3, .e 4, .e 5, .p 6, .l 7] = true := by kernel_rfl
theorem info3_ : (Try.prog.info? 3).map (fun i => (i.zero, i.size, i.bytes)) = some (some (.int .i64 0), 1, 8) := by kernel_rfl
theorem toList_ne (s : ByteArray) (h : 0 < s.size) : ¬ s.toList = [] ∧ s.toList.isEmpty = false := by
 have hl : s.toList.length = s.size := by rw [Lib.toList_data, Array.length_toList]; rfl
 cases hs : s.toList with
 | nil => rw [hs] at hl; simp only [List.length_nil] at hl; omega
 | cons a l => exact ⟨by simp, rfl⟩
theorem impl_num_rd {s : ByteArray} {at_ : Int} {bad : Bool} {most : Int} {g : Nat} {w0 w : World} {x a1 : Int} {b1 : Bool} (hr : rNum s at_ bad most = (x, a1, b1)) (hs : s.size ≤ 140737488351232) (hI : w.heap[g]? = some (.cells #[.string s, .int .i64 at_, .bool bad] 114 (0, 0))) (hg : w0.heap.size ≤ g) (hB : Below w0.heap.size w0 w) :
  Calls Try.prog 70 #[.pointer (some ⟨g, 0, none⟩), .int .i64 most] w (RdPost w0 w g 114 (.int .i64 x) s a1 b1) := by
 have h := impl_reads.num s at_ bad most g w0 w hs hI hg hB
 simp only [id, hr] at h
 exact h
theorem impl_text_rd {s : ByteArray} {at_ : Int} {bad : Bool} {g : Nat} {w0 w : World} {x : ByteArray} {a1 : Int} {b1 : Bool} (hr : rText s at_ bad = (x, a1, b1)) (hs : s.size ≤ 140737488351232) (hI : w.heap[g]? = some (.cells #[.string s, .int .i64 at_, .bool bad] 114 (0, 0))) (hg : w0.heap.size ≤ g) (hB : Below w0.heap.size w0 w) :
  Calls Try.prog 88 #[.pointer (some ⟨g, 0, none⟩)] w (RdPost w0 w g 114 (.string x) s a1 b1) := by
 have h := impl_reads.text s at_ bad g w0 w hs hI hg hB
 simp only [hr] at h
 exact h
theorem nIter_len (leaf : Bool) (s : ByteArray) (most : Int) (st : NSt) (h1 : st.keys = []) (h2 : st.vals = []) (h3 : st.kids = []) : ∀ n, (nIter leaf s most st n).keys.length = n ∧ (nIter leaf s most st n).vals.length ≤ n ∧ (nIter leaf s most st n).kids.length ≤ n
 | 0 => by simp [nIter, h1, h2, h3]
 | n + 1 => by
  have ih := nIter_len leaf s most st h1 h2 h3 n
  cases leaf <;> simp [nIter, nStep] <;> omega
theorem node_post {w w' : World} {n : S68} {ok : Bool} {A1 A2 A3 : Option Addr} {c1 c2 c3 : Nat} (h1 : Kd.R Kd.string 9 w' w.heap.size (fun _ => True) (.slice A1 n.f1.length c1) n.f1) (h2 : Kd.R Kd.string 9 w' w.heap.size (fun _ => True) (.slice A2 n.f2.length c2) n.f2) (h3 : Kd.R (Kd.int .i64) 3 w' w.heap.size (fun _ => True) (.slice A3 n.f3.length c3) n.f3) (hb : Below w.heap.size w w') :
  NodePost w n ok (.returned (.tuple #[.agg #[.bool n.f0, .slice A1 n.f1.length c1, .slice A2 n.f2.length c2, .slice A3 n.f3.length c3], .bool ok])) w' := ⟨A1, c1, A2, c2, A3, c3, rfl, h1, h2, h3, hb⟩
theorem base_below {w W : World} {o : Obj} (h : Below (w.alloc o).heap.size (w.alloc o) W) : Below w.heap.size w W := below_step (below_alloc (Below.refl _ _) o) h
theorem four_below {w W : World} (g : Nat) (h : Below w.heap.size w W) (hg : w.heap.size ≤ g) {u0 u1 u2 u3 : Value} : Below w.heap.size w ((((W.setCell ⟨g, 0, none⟩ u0).setCell ⟨g, 1, none⟩ u1).setCell ⟨g, 2, none⟩ u2).setCell ⟨g, 3, none⟩ u3) := below_set (below_set (below_set (below_set h hg) hg) hg) hg
theorem four_set {α : Type} {d : Kd α} {e base g t : Nat} {W : World} {ok : Nat → Prop} {v : Value} {xs : List α} (h : Kd.R d e W base ok v xs) {c0 c1 c2 c3 : Array Value} {u0 u1 u2 u3 : Value} (b0 : W.heap[g]? = some (.cells c0 t (0, 0))) (b1 : (W.setCell ⟨g, 0, none⟩ u0).heap[g]? = some (.cells c1 t (0, 0))) (b2 : ((W.setCell ⟨g, 0, none⟩ u0).setCell ⟨g, 1, none⟩ u1).heap[g]? = some (.cells c2 t (0, 0))) (b3 : (((W.setCell ⟨g, 0, none⟩ u0).setCell ⟨g, 1, none⟩ u1).setCell ⟨g, 2, none⟩ u2).heap[g]? = some (.cells c3 t (0, 0)))
  (ht : ∀ q, q ∈ e :: d.E → q ≠ t) : Kd.R d e ((((W.setCell ⟨g, 0, none⟩ u0).setCell ⟨g, 1, none⟩ u1).setCell ⟨g, 2, none⟩ u2).setCell ⟨g, 3, none⟩ u3) base ok v xs := Kd.R_set (Kd.R_set (Kd.R_set (Kd.R_set h b0 ht 0 u0) b1 ht 1 u1) b2 ht 2 u2) b3 ht 3 u3
theorem R_seen {α : Type} {d : Kd α} {e base : Nat} {W : World} {ok : Nat → Prop} {A : Option Addr} {c : Nat} {xs : List α} (h : Kd.R d e W base ok (.slice A xs.length c) xs) : xs.length ≤ c ∧ Kd.C d W A xs.length xs := by
 obtain ⟨A', c', he, hl, hC⟩ := Kd.R_reads h
 injection he with e1 e2 e3
 subst e1 e3
 exact ⟨hl, hC⟩
theorem readNode_leaf (k : Nat) (t body : ByteArray) (w : World) (hu : impl_Unsealed.f k t = some (body, true)) (hs : body.size ≤ 140737488351232) (h0 : 0 < body.size) (hb0 : ∀ h : 0 < body.size, ((body[0]'h).toNat : Int) = 108) (kn : Nat) (at0 : Int) (bad0 : Bool) (hk : rNum body 1 false 4 = ((kn : Int), at0, bad0)) (hkn : kn ≤ 4) (at_ : Int) (bad : Bool) (keys vals : List ByteArray) (kids : List Int) (hst : nIter true body 40 ⟨at0, bad0, [], [], []⟩ kn = ⟨at_, bad, keys, vals, kids⟩) (n : S68) (ok : Bool) (hres : (bad = false ∧ at_ = (body.size : Int) ∧ nodeOkB true keys vals kids = true ∧ n = ⟨true, keys, vals, kids⟩ ∧ ok = true) ∨ ((bad = true ∨ ¬ at_ = (body.size : Int) ∨ nodeOkB true keys vals kids = false) ∧ n = z68 ∧ ok = false)) :
  Calls Try.prog 30 #[.string t] w (NodePost w n ok) := by
 have HU := Aside0.mk hu
 have HK := Aside0.mk hk
 have HST := Aside0.mk hst
 have HRES := Aside0.mk hres
 obtain ⟨HL0, HL2⟩ := toList_ne body h0
 have HL1 : (!body.toList.isEmpty) = true := by rw [HL2]; rfl
 clear hu hk hst hres
 go_enter Try.func30, Try.ntmps30
 go_wp2_with fail
 ((with_reducible refine (impl_Unsealed.calls k t body true _ HU.out).mono ?_); rintro e w1 ⟨rfl, hb1⟩)
 obtain ⟨hc1, hf1⟩ := bcell hb1
 have hz1 : w.heap.size < w1.heap.size := by have hh := hb1.size; (try simp at hh); omega
 have HB1 := Aside0.mk hb1
 clear hb1
 have HI := Aside0.mk (show NInv (w.alloc (.cells #[.bool false, .slice none 0 0, .slice none 0 0, .slice none 0 0] 68)) ((w1.alloc (.cells #[.bool true, .slice none 0 0, .slice none 0 0, .slice none 0 0] 68)).alloc (.cells #[.string body, .int .i64 1, .bool false] 114)) w1.heap.size (w1.heap.size + 1) 114 body true (.slice none 0 0) (.slice none 0 0) (.slice none 0 0) 1 false [] [] [] from
  ⟨blk_alloc (blk_new w1 _) _, by have z := blk_new (w1.alloc (.cells #[.bool true, .slice none 0 0, .slice none 0 0, .slice none 0 0] 68)) (.cells #[.string body, .int .i64 1, .bool false] 114); simpa using z, by simp; omega, by simp; omega, Kd.R_nil _ _ _ _ _, Kd.R_nil _ _ _ _ _, Kd.R_nil _ _ _ _ _, fun k hk => by simp [Value.ownBlock] at hk, below_alloc (below_alloc HB1.out _) _⟩)
 go_wp2_with fail
 ((with_reducible refine (impl_num_rd HK.out hs HI.out.bR HI.out.hR HI.out.bel).mono ?_); rintro e w2 ⟨rfl, hI2, hb2, hk2⟩)
 have HN0 := Aside0.mk (HI.out.read (by decide) (by decide) (by decide) hI2 hb2 hk2)
 clear HI hI2 hb2 hk2 hc1 hf1
 go_wp2_with fail
 go_loopg [37] kn (fun gg s37 wr => ∃ (kk : Nat) (A1 : Option Addr) (c1 : Nat) (A2 : Option Addr) (c2 : Nat) (A3 : Option Addr) (c3 : Nat), kk ≤ kn ∧ kn - kk ≤ gg ∧ s37 = .int .i64 kk ∧ Aside0 (NInv (w.alloc (.cells #[.bool false, .slice none 0 0, .slice none 0 0, .slice none 0 0] 68)) wr w1.heap.size (w1.heap.size + 1) 114 body true (.slice A1 (nIter true body 40 ⟨at0, bad0, [], [], []⟩ kk).keys.length c1) (.slice A2 (nIter true body 40 ⟨at0, bad0, [], [], []⟩ kk).vals.length c2) (.slice A3 (nIter true body 40 ⟨at0, bad0, [], [], []⟩ kk).kids.length c3) (nIter true body 40 ⟨at0, bad0, [], [], []⟩ kk).at_ (nIter true body 40 ⟨at0, bad0, [], [], []⟩ kk).bad (nIter true body 40 ⟨at0, bad0, [], [], []⟩ kk).keys (nIter true body 40 ⟨at0, bad0, [], [], []⟩ kk).vals (nIter true body 40 ⟨at0, bad0, [], [], []⟩ kk).kids))
 case atStart => exact ⟨0, none, 0, none, 0, none, 0, Nat.zero_le _, by omega, rfl, HN0⟩
 case round =>
  clear HN0
  obtain ⟨kk, A1, c1, A2, c2, A3, c3, hkk, hg, rfl, HN⟩ := hrel
  by_cases hlt : kk < kn
  ·have hltz : (kk : Int) < (kn : Int) := by omega
   have HLEN0 := nIter_len true body 40 ⟨at0, bad0, [], [], []⟩ rfl rfl rfl kk
   have HSTEP := Aside0.mk (show (nIter true body 40 ⟨at0, bad0, [], [], []⟩ (kk + 1)) = nStep true body 40 (nIter true body 40 ⟨at0, bad0, [], [], []⟩ kk) from rfl)
   generalize hsk : nIter true body 40 ⟨at0, bad0, [], [], []⟩ kk = sk at HN HLEN0 HSTEP
   obtain ⟨a1, b1, keys1, vals1, kids1⟩ := sk
   clear hsk
   simp only at HN HLEN0
   obtain ⟨x1, a2, b2, hx⟩ : ∃ x1 a2 b2, rText body a1 b1 = (x1, a2, b2) := ⟨_, _, _, rfl⟩
   have HX := Aside0.mk hx
   have HX1 := Aside0.mk hx
   clear hx
   have HLEN := Aside0.mk (show keys1.length ≤ 4 by omega)
   have HLEV := Aside0.mk (show vals1.length ≤ 4 by omega)
   have HLEK := Aside0.mk (show kids1.length ≤ 4 by omega)
   clear HLEN0
   go_wp2_with fail
   obtain ⟨ks1, hks⟩ : ∃ z, z = keys1 ++ [x1] := ⟨_, rfl⟩
   have HKS1 := Aside0.mk hks
   clear hks
   have hNd := Aside0.mk HN.out.drew
   clear HN
   refine seq_start impl_ReadNode.ok8_0 (S := fun w' => w'.cell? ⟨w1.heap.size, 0, none⟩ = some (.bool true) ∧ w'.cell? ⟨w1.heap.size, 1, none⟩ = some (.slice A1 keys1.length c1) ∧ w'.cell? ⟨w1.heap.size, 2, none⟩ = some (.slice A2 vals1.length c2) ∧ w'.cell? ⟨w1.heap.size, 3, none⟩ = some (.slice A3 kids1.length c3)) (by kernel_rfl) (fun _ _ _ _ h => h) ⟨(blk_cell hNd.out.bN 0).trans rfl, (blk_cell hNd.out.bN 1).trans rfl, (blk_cell hNd.out.bN 2).trans rfl, (blk_cell hNd.out.bN 3).trans rfl⟩ (fun hHeld => ?_)
   generalize wr.drew = wd at hNd hHeld ⊢
   iterate 2 (refine seq_p (v := ?_) (a' := ?_) rfl rfl (Or.inl ⟨by rfl, ?_⟩) ?_ ?_; rotate_left; (· intro w'; go_simp; with_reducible rfl); rotate_left; (· show Act.put _ (some _) _ = _; simp only [Act.put, List.setIfInBounds_toArray, List.set_cons_zero, List.set_cons_succ, i64_w, i32_w]; try rfl))
   (refine seq_t (v := ?_) (a' := ?_) rfl rfl (Or.inl ⟨by rfl, ?_⟩) ?_ ?_; rotate_left; (· rintro w' ⟨s0, s1, s2, s3⟩; go_simp; with_reducible rfl); rotate_left; (· show Act.put _ (some _) _ = _; simp only [Act.put, List.setIfInBounds_toArray, List.set_cons_zero, List.set_cons_succ, i64_w, i32_w]; try rfl))
   refine seq_call rfl rfl Try.func88 (by kernel_rfl) rfl #[.pointer (some ⟨w1.heap.size + 1, 0, none⟩)] (by rfl) rfl (by (try simp only [List.map_toArray, List.map_cons, List.map_nil]); first | done | rfl) ?_
   with_reducible refine (impl_text_rd HX.out hs hNd.out.bR hNd.out.hR hNd.out.bel).mono ?_
   rintro e wc ⟨rfl, hIc, hbc, hkc⟩
   have hNc := Aside0.mk (hNd.out.read (by decide) (by decide) (by decide) hIc hbc hkc)
   clear hNd hIc hbc hkc
   refine ⟨_, rfl, ⟨(blk_cell hNc.out.bN 0).trans rfl, (blk_cell hNc.out.bN 1).trans rfl, (blk_cell hNc.out.bN 2).trans rfl, (blk_cell hNc.out.bN 3).trans rfl⟩, (fun hHeld => ?_)⟩
   refine seq_norm (a' := ?_) ?_ ?_; rotate_left; (· show Act.put _ (some 42) _ = _; simp only [Act.put, List.setIfInBounds_toArray, List.set_cons_zero, List.set_cons_succ, i64_w, i32_w]; try rfl)
   refine seq_e rfl rfl (fun K hK => ?_)
   refine value_ (w1 := ?_) (v := ?_) (by rfl) rfl ?_ ?_
   rotate_left 2
   ·go_simp
    constructor
    ·rfl
    ·rfl
   refine hK.out _ _ ⟨(blk_cell (blk_alloc hNc.out.bN _) 0).trans rfl, (blk_cell (blk_alloc hNc.out.bN _) 1).trans rfl, (blk_cell (blk_alloc hNc.out.bN _) 2).trans rfl, (blk_cell (blk_alloc hNc.out.bN _) 3).trans rfl⟩ (fun hHeld => ?_)
   clear hK K
   refine seq_norm (a' := ?_) ?_ ?_; rotate_left; (· show Act.put _ (some 43) _ = _; simp only [Act.put, List.setIfInBounds_toArray, List.set_cons_zero, List.set_cons_succ, i64_w, i32_w]; try rfl)
   refine seq_e rfl rfl (fun K hK => ?_)
   refine Kd.R_append_step Kd.string (w0 := (w.alloc (.cells #[.bool false, .slice none 0 0, .slice none 0 0, .slice none 0 0] 68))) ((w.alloc (.cells #[.bool false, .slice none 0 0, .slice none 0 0, .slice none 0 0] 68))).heap.size (by rfl) (.tmp 40) (.tmp 43) 22 9 (.string ⟨#[]⟩) 16 rfl Try.underlying22 info9 rfl (by decide) (by omega) (.slice A1 keys1.length c1) keys1 x1 [.string x1] (fun _ => True) (fun _ => False) rfl rfl ?aP (fun _ hk => hk.elim) ?aF ?aO ?aB ?aS ?aL ?_
   (case aP => exact rfl)
   (case aF => exact (fun _ _ => trivial))
   (case aO => exact hNc.out.rk)
   (case aB => exact hNc.out.bel)
   (case aS => exact hNc.out.bel.size)
   (case aL => have := HLEN.out; omega)
   intro va wa ho hb hg hat
   have bNa := Aside0.mk (blk_grown hNc.out.bN hg (Kd.R_ne hNc.out.rk hNc.out.bN (by decide)))
   rw [← HKS1.out] at ho
   obtain ⟨Ao1, co1, eo⟩ := Kd.R_slice ho
   subst eo
   have hNs := Aside0.mk (hNc.out.pushKey (by decide) (by decide) ho hb hg hat)
   clear ho hb hg hat
   refine hK.out _ _ ⟨(blk_cell bNa.out 0).trans rfl, (blk_cell bNa.out 1).trans rfl, (blk_cell bNa.out 2).trans rfl, (blk_cell bNa.out 3).trans rfl⟩ (fun hHeld => ?_)
   clear hK K
   refine seq_norm (a' := ?_) ?_ ?_; rotate_left; (· show Act.put _ (some 44) _ = _; simp only [Act.put, List.setIfInBounds_toArray, List.set_cons_zero, List.set_cons_succ, i64_w, i32_w]; try rfl)
   (refine seq_p (v := ?_) (a' := ?_) rfl rfl (Or.inl ⟨by rfl, ?_⟩) ?_ ?_; rotate_left; (· intro w'; go_simp; with_reducible rfl); rotate_left; (· show Act.put _ (some _) _ = _; simp only [Act.put, List.setIfInBounds_toArray, List.set_cons_zero, List.set_cons_succ, i64_w, i32_w]; try rfl))
   refine seq_l rfl rfl (fun K hK => ?_)
   have hs1 : wa.cell? ⟨w1.heap.size, 1, none⟩ = some (.slice A1 keys1.length c1) := (blk_cell bNa.out 1).trans rfl
   have hf1 := blk_frozen bNa.out 1
   refine skip_ (w1 := ?_) (by rfl) rfl ?_ ?_
   rotate_left
   ·go_simp
    rfl
   refine hK.out _ _ ?_
   clear hK K
   refine seq_done ?_
   clear hNc bNa hs1 hf1 hHeld
   generalize wa.setCell ⟨w1.heap.size, 1, none⟩ _ = w6 at hNs ⊢
   have HN2 := Aside0.mk hNs.out
   clear hNs
   clear HX HLEN
   have hcl : w6.cell? ⟨w1.heap.size, 0, none⟩ = some (.bool true) := (blk_cell HN2.out.bN 0).trans rfl
   obtain ⟨x2, a3, b3, hx⟩ : ∃ x2 a3 b3, rText body a2 b2 = (x2, a3, b3) := ⟨_, _, _, rfl⟩
   have HX := Aside0.mk hx
   have HX2 := Aside0.mk hx
   clear hx
   go_wp2_with fail
   obtain ⟨ks2, hks⟩ : ∃ z, z = vals1 ++ [x2] := ⟨_, rfl⟩
   have HKS2 := Aside0.mk hks
   clear hks
   have hNd := Aside0.mk HN2.out.drew
   clear HN2
   refine seq_start impl_ReadNode.ok10_1 (S := fun w' => w'.cell? ⟨w1.heap.size, 0, none⟩ = some (.bool true) ∧ w'.cell? ⟨w1.heap.size, 1, none⟩ = some (.slice Ao1 ks1.length co1) ∧ w'.cell? ⟨w1.heap.size, 2, none⟩ = some (.slice A2 vals1.length c2) ∧ w'.cell? ⟨w1.heap.size, 3, none⟩ = some (.slice A3 kids1.length c3)) (by kernel_rfl) (fun _ _ _ _ h => h) ⟨(blk_cell hNd.out.bN 0).trans rfl, (blk_cell hNd.out.bN 1).trans rfl, (blk_cell hNd.out.bN 2).trans rfl, (blk_cell hNd.out.bN 3).trans rfl⟩ (fun hHeld => ?_)
   generalize w6.drew = wd at hNd hHeld ⊢
   iterate 2 (refine seq_p (v := ?_) (a' := ?_) rfl rfl (Or.inl ⟨by rfl, ?_⟩) ?_ ?_; rotate_left; (· intro w'; go_simp; with_reducible rfl); rotate_left; (· show Act.put _ (some _) _ = _; simp only [Act.put, List.setIfInBounds_toArray, List.set_cons_zero, List.set_cons_succ, i64_w, i32_w]; try rfl))
   (refine seq_t (v := ?_) (a' := ?_) rfl rfl (Or.inl ⟨by rfl, ?_⟩) ?_ ?_; rotate_left; (· rintro w' ⟨s0, s1, s2, s3⟩; go_simp; with_reducible rfl); rotate_left; (· show Act.put _ (some _) _ = _; simp only [Act.put, List.setIfInBounds_toArray, List.set_cons_zero, List.set_cons_succ, i64_w, i32_w]; try rfl))
   refine seq_call rfl rfl Try.func88 (by kernel_rfl) rfl #[.pointer (some ⟨w1.heap.size + 1, 0, none⟩)] (by rfl) rfl (by (try simp only [List.map_toArray, List.map_cons, List.map_nil]); first | done | rfl) ?_
   with_reducible refine (impl_text_rd HX.out hs hNd.out.bR hNd.out.hR hNd.out.bel).mono ?_
   rintro e wc ⟨rfl, hIc, hbc, hkc⟩
   have hNc := Aside0.mk (hNd.out.read (by decide) (by decide) (by decide) hIc hbc hkc)
   clear hNd hIc hbc hkc
   refine ⟨_, rfl, ⟨(blk_cell hNc.out.bN 0).trans rfl, (blk_cell hNc.out.bN 1).trans rfl, (blk_cell hNc.out.bN 2).trans rfl, (blk_cell hNc.out.bN 3).trans rfl⟩, (fun hHeld => ?_)⟩
   refine seq_norm (a' := ?_) ?_ ?_; rotate_left; (· show Act.put _ (some 51) _ = _; simp only [Act.put, List.setIfInBounds_toArray, List.set_cons_zero, List.set_cons_succ, i64_w, i32_w]; try rfl)
   refine seq_e rfl rfl (fun K hK => ?_)
   refine value_ (w1 := ?_) (v := ?_) (by rfl) rfl ?_ ?_
   rotate_left 2
   ·go_simp
    constructor
    ·rfl
    ·rfl
   refine hK.out _ _ ⟨(blk_cell (blk_alloc hNc.out.bN _) 0).trans rfl, (blk_cell (blk_alloc hNc.out.bN _) 1).trans rfl, (blk_cell (blk_alloc hNc.out.bN _) 2).trans rfl, (blk_cell (blk_alloc hNc.out.bN _) 3).trans rfl⟩ (fun hHeld => ?_)
   clear hK K
   refine seq_norm (a' := ?_) ?_ ?_; rotate_left; (· show Act.put _ (some 52) _ = _; simp only [Act.put, List.setIfInBounds_toArray, List.set_cons_zero, List.set_cons_succ, i64_w, i32_w]; try rfl)
   refine seq_e rfl rfl (fun K hK => ?_)
   refine Kd.R_append_step Kd.string (w0 := (w.alloc (.cells #[.bool false, .slice none 0 0, .slice none 0 0, .slice none 0 0] 68))) ((w.alloc (.cells #[.bool false, .slice none 0 0, .slice none 0 0, .slice none 0 0] 68))).heap.size (by rfl) (.tmp 49) (.tmp 52) 22 9 (.string ⟨#[]⟩) 16 rfl Try.underlying22 info9 rfl (by decide) (by omega) (.slice A2 vals1.length c2) vals1 x2 [.string x2] (fun _ => True) (fun _ => False) rfl rfl ?aP (fun _ hk => hk.elim) ?aF ?aO ?aB ?aS ?aL ?_
   (case aP => exact rfl)
   (case aF => exact (fun _ _ => trivial))
   (case aO => exact hNc.out.rv)
   (case aB => exact hNc.out.bel)
   (case aS => exact hNc.out.bel.size)
   (case aL => have := HLEV.out; omega)
   intro va wa ho hb hg hat
   have bNa := Aside0.mk (blk_grown hNc.out.bN hg (Kd.R_ne hNc.out.rv hNc.out.bN (by decide)))
   rw [← HKS2.out] at ho
   obtain ⟨Ao2, co2, eo⟩ := Kd.R_slice ho
   subst eo
   have hNs := Aside0.mk (hNc.out.pushVal (by decide) (by decide) ho hb hg hat)
   clear ho hb hg hat
   refine hK.out _ _ ⟨(blk_cell bNa.out 0).trans rfl, (blk_cell bNa.out 1).trans rfl, (blk_cell bNa.out 2).trans rfl, (blk_cell bNa.out 3).trans rfl⟩ (fun hHeld => ?_)
   clear hK K
   refine seq_norm (a' := ?_) ?_ ?_; rotate_left; (· show Act.put _ (some 53) _ = _; simp only [Act.put, List.setIfInBounds_toArray, List.set_cons_zero, List.set_cons_succ, i64_w, i32_w]; try rfl)
   (refine seq_p (v := ?_) (a' := ?_) rfl rfl (Or.inl ⟨by rfl, ?_⟩) ?_ ?_; rotate_left; (· intro w'; go_simp; with_reducible rfl); rotate_left; (· show Act.put _ (some _) _ = _; simp only [Act.put, List.setIfInBounds_toArray, List.set_cons_zero, List.set_cons_succ, i64_w, i32_w]; try rfl))
   refine seq_l rfl rfl (fun K hK => ?_)
   have hs1 : wa.cell? ⟨w1.heap.size, 2, none⟩ = some (.slice A2 vals1.length c2) := (blk_cell bNa.out 2).trans rfl
   have hf1 := blk_frozen bNa.out 2
   refine skip_ (w1 := ?_) (by rfl) rfl ?_ ?_
   rotate_left
   ·go_simp
    rfl
   refine hK.out _ _ ?_
   clear hK K
   refine seq_done ?_
   clear hNc bNa hs1 hf1 hHeld
   generalize wa.setCell ⟨w1.heap.size, 2, none⟩ _ = w7 at hNs ⊢
   have HN3 := Aside0.mk hNs.out
   clear hNs
   clear HX
   go_wp2
   have hw : wrap64 ((kk : Int) + 1) = ((kk + 1 : Nat) : Int) := by unfold wrap64; omega
   have hfin : (nIter true body 40 ⟨at0, bad0, [], [], []⟩ (kk + 1)) = ⟨a3, b3, ks1, ks2, kids1⟩ := by rw [HSTEP.out]; simp [nStep, HX1.out, HX2.out, HKS1.out, HKS2.out]
   have HW := Aside0.mk hw
   have HF := Aside0.mk hfin
   clear hw hfin
   go_roundg (kn - (kk + 1))
   case measure => omega
   case rel => exact ⟨kk + 1, Ao1, co1, Ao2, co2, A3, c3, by omega, by omega, by first | rfl | exact congrArg (Value.int .i64) HW.out, by rw [HF.out]; exact HN3⟩
  ·have hltz : ¬ (kk : Int) < (kn : Int) := by omega
   have : kk = kn := by omega
   subst this
   rw [HST.out] at HN
   simp only at HN
   have hr0 : wr.cell? ⟨w1.heap.size + 1, 1, none⟩ = some (.int .i64 at_) := (blk_cell HN.out.bR 1).trans rfl
   have hn0 : wr.cell? ⟨w1.heap.size, 0, none⟩ = some (.bool true) := (blk_cell HN.out.bN 0).trans rfl
   have hn1 : wr.cell? ⟨w1.heap.size, 1, none⟩ = some (.slice A1 keys.length c1) := (blk_cell HN.out.bN 1).trans rfl
   have hn2 : wr.cell? ⟨w1.heap.size, 2, none⟩ = some (.slice A2 vals.length c2) := (blk_cell HN.out.bN 2).trans rfl
   have hn3 : wr.cell? ⟨w1.heap.size, 3, none⟩ = some (.slice A3 kids.length c3) := (blk_cell HN.out.bN 3).trans rfl
   have hbo := Aside0.mk (HN.out.bel.block w.heap.size (by simp))
   have BO := Aside0.mk (hbo.out.trans (blk_new w _))
   clear hbo
   have hfo := blk_frozen BO.out
   have hob0 : wr.cell? ⟨w.heap.size, 0, none⟩ = some (.bool false) := (blk_cell BO.out 0).trans rfl
   have hob1 : wr.cell? ⟨w.heap.size, 1, none⟩ = some (.slice none 0 0) := (blk_cell BO.out 1).trans rfl
   have hob2 : wr.cell? ⟨w.heap.size, 2, none⟩ = some (.slice none 0 0) := (blk_cell BO.out 2).trans rfl
   have hob3 : wr.cell? ⟨w.heap.size, 3, none⟩ = some (.slice none 0 0) := (blk_cell BO.out 3).trans rfl
   have hlo := blk_lt BO.out
   rcases HRES.out with ⟨e1, e2, e3, e4, e5⟩ | ⟨e1, e4, e5⟩
   ·subst e1 e4 e5
    have hr1 : wr.cell? ⟨w1.heap.size + 1, 2, none⟩ = some (.bool false) := (blk_cell HN.out.bR 2).trans rfl
    have hq := Aside0.mk e2
    have hq1 : (at_ != (body.size : Int)) = false := by rw [e2]; simp
    have HOK := Aside0.mk (show impl_NodeOk.f true keys vals kids = some true from congrArg some e3)
    have hlN := blk_lt HN.out.bN
    clear e2 e3
    go_wp2_with fail
    ((with_reducible refine (impl_NodeOk.calls true A1 c1 keys A2 c2 vals A3 c3 kids true _ (R_seen HN.out.rk).2 (R_seen HN.out.rk).1 (R_seen HN.out.rv).2 (R_seen HN.out.rv).1 (R_seen HN.out.ri).2 (R_seen HN.out.ri).1 HOK.out).mono ?_); rintro e w5 ⟨rfl, hb5⟩)
    obtain ⟨hc5, hf5⟩ := bcell hb5
    have BO5 := Aside0.mk (blk_below BO.out hb5)
    have HN5 := Aside0.mk (HN.out.below hb5)
    clear hb5
    go_wp2
    have B1 := blk_put BO5.out 0 (.bool true) rfl
    have B2 := blk_put B1 1 (.slice A1 keys.length c1) rfl
    have B3 := blk_put B2 2 (.slice A2 vals.length c2) rfl
    have B4 := blk_put B3 3 (.slice A3 kids.length c3) rfl
    refine bodyPost_ret (results_ct rfl _ _ w.heap.size 68 #[.bool true, .slice A1 keys.length c1, .slice A2 vals.length c2, .slice A3 kids.length c3] (0, 0) _ rfl B4 Try.underlying68 rfl (by kernel_rfl)) rfl ?_
    exact node_post (n := ⟨true, keys, vals, kids⟩) (Kd.R_lower (four_set HN5.out.rk BO5.out B1 B2 B3 (by decide)) (by simp)) (Kd.R_lower (four_set HN5.out.rv BO5.out B1 B2 B3 (by decide)) (by simp)) (Kd.R_lower (four_set HN5.out.ri BO5.out B1 B2 B3 (by decide)) (by simp)) (four_below w.heap.size (base_below HN5.out.bel) (Nat.le_refl _))
   ·subst e4 e5
    cases hbad : bad with
    | true =>
     subst hbad
     have hr1 : wr.cell? ⟨w1.heap.size + 1, 2, none⟩ = some (.bool true) := (blk_cell HN.out.bR 2).trans rfl
     go_wp2
     have B1 := blk_put BO.out 0 (.bool false) rfl
     have B2 := blk_put B1 1 (.slice none 0 0) rfl
     have B3 := blk_put B2 2 (.slice none 0 0) rfl
     have B4 := blk_put B3 3 (.slice none 0 0) rfl
     refine bodyPost_ret (results_ct rfl _ _ w.heap.size 68 #[.bool false, .slice none 0 0, .slice none 0 0, .slice none 0 0] (0, 0) _ rfl B4 Try.underlying68 rfl (by kernel_rfl)) rfl ?_
     exact node_post (n := z68) (Kd.R_nil _ _ _ _ _) (Kd.R_nil _ _ _ _ _) (Kd.R_nil _ _ _ _ _) (four_below w.heap.size (base_below HN.out.bel) (Nat.le_refl _))
    | false =>
     subst hbad
     have hr1 : wr.cell? ⟨w1.heap.size + 1, 2, none⟩ = some (.bool false) := (blk_cell HN.out.bR 2).trans rfl
     by_cases hq : at_ = (body.size : Int)
     ·have hq1 : (at_ != (body.size : Int)) = false := by rw [hq]; simp
      have e3 : nodeOkB true keys vals kids = false := by
       rcases e1 with e | e | e
       ·cases e
       ·exact absurd hq e
       ·exact e
      have HQ := Aside0.mk hq
      have HOK := Aside0.mk (show impl_NodeOk.f true keys vals kids = some false from congrArg some e3)
      have hlN := blk_lt HN.out.bN
      clear e1 e3 hq
      go_wp2_with fail
      ((with_reducible refine (impl_NodeOk.calls true A1 c1 keys A2 c2 vals A3 c3 kids false _ (R_seen HN.out.rk).2 (R_seen HN.out.rk).1 (R_seen HN.out.rv).2 (R_seen HN.out.rv).1 (R_seen HN.out.ri).2 (R_seen HN.out.ri).1 HOK.out).mono ?_); rintro e w5 ⟨rfl, hb5⟩)
      obtain ⟨hc5, hf5⟩ := bcell hb5
      have BO5 := Aside0.mk (blk_below BO.out hb5)
      have HN5 := Aside0.mk (HN.out.below hb5)
      clear hb5
      go_wp2
      have B1 := blk_put BO5.out 0 (.bool false) rfl
      have B2 := blk_put B1 1 (.slice none 0 0) rfl
      have B3 := blk_put B2 2 (.slice none 0 0) rfl
      have B4 := blk_put B3 3 (.slice none 0 0) rfl
      refine bodyPost_ret (results_ct rfl _ _ w.heap.size 68 #[.bool false, .slice none 0 0, .slice none 0 0, .slice none 0 0] (0, 0) _ rfl B4 Try.underlying68 rfl (by kernel_rfl)) rfl ?_
      exact node_post (n := z68) (Kd.R_nil _ _ _ _ _) (Kd.R_nil _ _ _ _ _) (Kd.R_nil _ _ _ _ _) (four_below w.heap.size (base_below HN5.out.bel) (Nat.le_refl _))
     ·have hq1 : (at_ != (body.size : Int)) = true := by simpa using hq
      have hq2 : decide (at_ = (body.size : Int)) = false := decide_eq_false hq
      have HQ := Aside0.mk hq
      clear hq e1
      go_wp2
      have B1 := blk_put BO.out 0 (.bool false) rfl
      have B2 := blk_put B1 1 (.slice none 0 0) rfl
      have B3 := blk_put B2 2 (.slice none 0 0) rfl
      have B4 := blk_put B3 3 (.slice none 0 0) rfl
      refine bodyPost_ret (results_ct rfl _ _ w.heap.size 68 #[.bool false, .slice none 0 0, .slice none 0 0, .slice none 0 0] (0, 0) _ rfl B4 Try.underlying68 rfl (by kernel_rfl)) rfl ?_
      exact node_post (n := z68) (Kd.R_nil _ _ _ _ _) (Kd.R_nil _ _ _ _ _) (Kd.R_nil _ _ _ _ _) (four_below w.heap.size (base_below HN.out.bel) (Nat.le_refl _))
theorem readNode_branch (k : Nat) (t body : ByteArray) (w : World) (hu : impl_Unsealed.f k t = some (body, true)) (hs : body.size ≤ 140737488351232) (h0 : 0 < body.size) (hb0 : ∀ h : 0 < body.size, ((body[0]'h).toNat : Int) = 98) (kn : Nat) (at0 : Int) (bad0 : Bool) (hk : rNum body 1 false 4 = ((kn : Int), at0, bad0)) (hkn : kn ≤ 4) (at_ : Int) (bad : Bool) (keys vals : List ByteArray) (kids : List Int) (hst : nIter false body 40 ⟨at0, bad0, [], [], []⟩ kn = ⟨at_, bad, keys, vals, kids⟩) (n : S68) (ok : Bool) (hres : (bad = false ∧ at_ = (body.size : Int) ∧ nodeOkB false keys vals kids = true ∧ n = ⟨false, keys, vals, kids⟩ ∧ ok = true) ∨ ((bad = true ∨ ¬ at_ = (body.size : Int) ∨ nodeOkB false keys vals kids = false) ∧ n = z68 ∧ ok = false)) :
  Calls Try.prog 30 #[.string t] w (NodePost w n ok) := by
 have HU := Aside0.mk hu
 have HK := Aside0.mk hk
 have HST := Aside0.mk hst
 have HRES := Aside0.mk hres
 obtain ⟨HL0, HL2⟩ := toList_ne body h0
 have HL1 : (!body.toList.isEmpty) = true := by rw [HL2]; rfl
 clear hu hk hst hres
 go_enter Try.func30, Try.ntmps30
 go_wp2_with fail
 ((with_reducible refine (impl_Unsealed.calls k t body true _ HU.out).mono ?_); rintro e w1 ⟨rfl, hb1⟩)
 obtain ⟨hc1, hf1⟩ := bcell hb1
 have hz1 : w.heap.size < w1.heap.size := by have hh := hb1.size; (try simp at hh); omega
 have HB1 := Aside0.mk hb1
 clear hb1
 have HI := Aside0.mk (show NInv (w.alloc (.cells #[.bool false, .slice none 0 0, .slice none 0 0, .slice none 0 0] 68)) ((w1.alloc (.cells #[.bool false, .slice none 0 0, .slice none 0 0, .slice none 0 0] 68)).alloc (.cells #[.string body, .int .i64 1, .bool false] 114)) w1.heap.size (w1.heap.size + 1) 114 body false (.slice none 0 0) (.slice none 0 0) (.slice none 0 0) 1 false [] [] [] from
  ⟨blk_alloc (blk_new w1 _) _, by have z := blk_new (w1.alloc (.cells #[.bool false, .slice none 0 0, .slice none 0 0, .slice none 0 0] 68)) (.cells #[.string body, .int .i64 1, .bool false] 114); simpa using z, by simp; omega, by simp; omega, Kd.R_nil _ _ _ _ _, Kd.R_nil _ _ _ _ _, Kd.R_nil _ _ _ _ _, fun k hk => by simp [Value.ownBlock] at hk, below_alloc (below_alloc HB1.out _) _⟩)
 go_wp2_with fail
 ((with_reducible refine (impl_num_rd HK.out hs HI.out.bR HI.out.hR HI.out.bel).mono ?_); rintro e w2 ⟨rfl, hI2, hb2, hk2⟩)
 have HN0 := Aside0.mk (HI.out.read (by decide) (by decide) (by decide) hI2 hb2 hk2)
 clear HI hI2 hb2 hk2 hc1 hf1
 go_wp2_with fail
 go_loopg [37] kn (fun gg s37 wr => ∃ (kk : Nat) (A1 : Option Addr) (c1 : Nat) (A2 : Option Addr) (c2 : Nat) (A3 : Option Addr) (c3 : Nat), kk ≤ kn ∧ kn - kk ≤ gg ∧ s37 = .int .i64 kk ∧ Aside0 (NInv (w.alloc (.cells #[.bool false, .slice none 0 0, .slice none 0 0, .slice none 0 0] 68)) wr w1.heap.size (w1.heap.size + 1) 114 body false (.slice A1 (nIter false body 40 ⟨at0, bad0, [], [], []⟩ kk).keys.length c1) (.slice A2 (nIter false body 40 ⟨at0, bad0, [], [], []⟩ kk).vals.length c2) (.slice A3 (nIter false body 40 ⟨at0, bad0, [], [], []⟩ kk).kids.length c3) (nIter false body 40 ⟨at0, bad0, [], [], []⟩ kk).at_ (nIter false body 40 ⟨at0, bad0, [], [], []⟩ kk).bad (nIter false body 40 ⟨at0, bad0, [], [], []⟩ kk).keys (nIter false body 40 ⟨at0, bad0, [], [], []⟩ kk).vals (nIter false body 40 ⟨at0, bad0, [], [], []⟩ kk).kids))
 case atStart => exact ⟨0, none, 0, none, 0, none, 0, Nat.zero_le _, by omega, rfl, HN0⟩
 case round =>
  clear HN0
  obtain ⟨kk, A1, c1, A2, c2, A3, c3, hkk, hg, rfl, HN⟩ := hrel
  by_cases hlt : kk < kn
  ·have hltz : (kk : Int) < (kn : Int) := by omega
   have HLEN0 := nIter_len false body 40 ⟨at0, bad0, [], [], []⟩ rfl rfl rfl kk
   have HSTEP := Aside0.mk (show (nIter false body 40 ⟨at0, bad0, [], [], []⟩ (kk + 1)) = nStep false body 40 (nIter false body 40 ⟨at0, bad0, [], [], []⟩ kk) from rfl)
   generalize hsk : nIter false body 40 ⟨at0, bad0, [], [], []⟩ kk = sk at HN HLEN0 HSTEP
   obtain ⟨a1, b1, keys1, vals1, kids1⟩ := sk
   clear hsk
   simp only at HN HLEN0
   obtain ⟨x1, a2, b2, hx⟩ : ∃ x1 a2 b2, rText body a1 b1 = (x1, a2, b2) := ⟨_, _, _, rfl⟩
   have HX := Aside0.mk hx
   have HX1 := Aside0.mk hx
   clear hx
   have HLEN := Aside0.mk (show keys1.length ≤ 4 by omega)
   have HLEV := Aside0.mk (show vals1.length ≤ 4 by omega)
   have HLEK := Aside0.mk (show kids1.length ≤ 4 by omega)
   clear HLEN0
   go_wp2_with fail
   obtain ⟨ks1, hks⟩ : ∃ z, z = keys1 ++ [x1] := ⟨_, rfl⟩
   have HKS1 := Aside0.mk hks
   clear hks
   have hNd := Aside0.mk HN.out.drew
   clear HN
   refine seq_start impl_ReadNode.ok8_0 (S := fun w' => w'.cell? ⟨w1.heap.size, 0, none⟩ = some (.bool false) ∧ w'.cell? ⟨w1.heap.size, 1, none⟩ = some (.slice A1 keys1.length c1) ∧ w'.cell? ⟨w1.heap.size, 2, none⟩ = some (.slice A2 vals1.length c2) ∧ w'.cell? ⟨w1.heap.size, 3, none⟩ = some (.slice A3 kids1.length c3)) (by kernel_rfl) (fun _ _ _ _ h => h) ⟨(blk_cell hNd.out.bN 0).trans rfl, (blk_cell hNd.out.bN 1).trans rfl, (blk_cell hNd.out.bN 2).trans rfl, (blk_cell hNd.out.bN 3).trans rfl⟩ (fun hHeld => ?_)
   generalize wr.drew = wd at hNd hHeld ⊢
   iterate 2 (refine seq_p (v := ?_) (a' := ?_) rfl rfl (Or.inl ⟨by rfl, ?_⟩) ?_ ?_; rotate_left; (· intro w'; go_simp; with_reducible rfl); rotate_left; (· show Act.put _ (some _) _ = _; simp only [Act.put, List.setIfInBounds_toArray, List.set_cons_zero, List.set_cons_succ, i64_w, i32_w]; try rfl))
   (refine seq_t (v := ?_) (a' := ?_) rfl rfl (Or.inl ⟨by rfl, ?_⟩) ?_ ?_; rotate_left; (· rintro w' ⟨s0, s1, s2, s3⟩; go_simp; with_reducible rfl); rotate_left; (· show Act.put _ (some _) _ = _; simp only [Act.put, List.setIfInBounds_toArray, List.set_cons_zero, List.set_cons_succ, i64_w, i32_w]; try rfl))
   refine seq_call rfl rfl Try.func88 (by kernel_rfl) rfl #[.pointer (some ⟨w1.heap.size + 1, 0, none⟩)] (by rfl) rfl (by (try simp only [List.map_toArray, List.map_cons, List.map_nil]); first | done | rfl) ?_
   with_reducible refine (impl_text_rd HX.out hs hNd.out.bR hNd.out.hR hNd.out.bel).mono ?_
   rintro e wc ⟨rfl, hIc, hbc, hkc⟩
   have hNc := Aside0.mk (hNd.out.read (by decide) (by decide) (by decide) hIc hbc hkc)
   clear hNd hIc hbc hkc
   refine ⟨_, rfl, ⟨(blk_cell hNc.out.bN 0).trans rfl, (blk_cell hNc.out.bN 1).trans rfl, (blk_cell hNc.out.bN 2).trans rfl, (blk_cell hNc.out.bN 3).trans rfl⟩, (fun hHeld => ?_)⟩
   refine seq_norm (a' := ?_) ?_ ?_; rotate_left; (· show Act.put _ (some 42) _ = _; simp only [Act.put, List.setIfInBounds_toArray, List.set_cons_zero, List.set_cons_succ, i64_w, i32_w]; try rfl)
   refine seq_e rfl rfl (fun K hK => ?_)
   refine value_ (w1 := ?_) (v := ?_) (by rfl) rfl ?_ ?_
   rotate_left 2
   ·go_simp
    constructor
    ·rfl
    ·rfl
   refine hK.out _ _ ⟨(blk_cell (blk_alloc hNc.out.bN _) 0).trans rfl, (blk_cell (blk_alloc hNc.out.bN _) 1).trans rfl, (blk_cell (blk_alloc hNc.out.bN _) 2).trans rfl, (blk_cell (blk_alloc hNc.out.bN _) 3).trans rfl⟩ (fun hHeld => ?_)
   clear hK K
   refine seq_norm (a' := ?_) ?_ ?_; rotate_left; (· show Act.put _ (some 43) _ = _; simp only [Act.put, List.setIfInBounds_toArray, List.set_cons_zero, List.set_cons_succ, i64_w, i32_w]; try rfl)
   refine seq_e rfl rfl (fun K hK => ?_)
   refine Kd.R_append_step Kd.string (w0 := (w.alloc (.cells #[.bool false, .slice none 0 0, .slice none 0 0, .slice none 0 0] 68))) ((w.alloc (.cells #[.bool false, .slice none 0 0, .slice none 0 0, .slice none 0 0] 68))).heap.size (by rfl) (.tmp 40) (.tmp 43) 22 9 (.string ⟨#[]⟩) 16 rfl Try.underlying22 info9 rfl (by decide) (by omega) (.slice A1 keys1.length c1) keys1 x1 [.string x1] (fun _ => True) (fun _ => False) rfl rfl ?aP (fun _ hk => hk.elim) ?aF ?aO ?aB ?aS ?aL ?_
   (case aP => exact rfl)
   (case aF => exact (fun _ _ => trivial))
   (case aO => exact hNc.out.rk)
   (case aB => exact hNc.out.bel)
   (case aS => exact hNc.out.bel.size)
   (case aL => have := HLEN.out; omega)
   intro va wa ho hb hg hat
   have bNa := Aside0.mk (blk_grown hNc.out.bN hg (Kd.R_ne hNc.out.rk hNc.out.bN (by decide)))
   rw [← HKS1.out] at ho
   obtain ⟨Ao1, co1, eo⟩ := Kd.R_slice ho
   subst eo
   have hNs := Aside0.mk (hNc.out.pushKey (by decide) (by decide) ho hb hg hat)
   clear ho hb hg hat
   refine hK.out _ _ ⟨(blk_cell bNa.out 0).trans rfl, (blk_cell bNa.out 1).trans rfl, (blk_cell bNa.out 2).trans rfl, (blk_cell bNa.out 3).trans rfl⟩ (fun hHeld => ?_)
   clear hK K
   refine seq_norm (a' := ?_) ?_ ?_; rotate_left; (· show Act.put _ (some 44) _ = _; simp only [Act.put, List.setIfInBounds_toArray, List.set_cons_zero, List.set_cons_succ, i64_w, i32_w]; try rfl)
   (refine seq_p (v := ?_) (a' := ?_) rfl rfl (Or.inl ⟨by rfl, ?_⟩) ?_ ?_; rotate_left; (· intro w'; go_simp; with_reducible rfl); rotate_left; (· show Act.put _ (some _) _ = _; simp only [Act.put, List.setIfInBounds_toArray, List.set_cons_zero, List.set_cons_succ, i64_w, i32_w]; try rfl))
   refine seq_l rfl rfl (fun K hK => ?_)
   have hs1 : wa.cell? ⟨w1.heap.size, 1, none⟩ = some (.slice A1 keys1.length c1) := (blk_cell bNa.out 1).trans rfl
   have hf1 := blk_frozen bNa.out 1
   refine skip_ (w1 := ?_) (by rfl) rfl ?_ ?_
   rotate_left
   ·go_simp
    rfl
   refine hK.out _ _ ?_
   clear hK K
   refine seq_done ?_
   clear hNc bNa hs1 hf1 hHeld
   generalize wa.setCell ⟨w1.heap.size, 1, none⟩ _ = w6 at hNs ⊢
   have HN2 := Aside0.mk hNs.out
   clear hNs
   clear HX HLEN
   have hcl : w6.cell? ⟨w1.heap.size, 0, none⟩ = some (.bool false) := (blk_cell HN2.out.bN 0).trans rfl
   obtain ⟨x2, a3, b3, hx⟩ : ∃ x2 a3 b3, rNum body a2 b2 40 = (x2, a3, b3) := ⟨_, _, _, rfl⟩
   have HX := Aside0.mk hx
   have HX2 := Aside0.mk hx
   clear hx
   go_wp2_with fail
   obtain ⟨ks3, hks⟩ : ∃ z, z = kids1 ++ [x2] := ⟨_, rfl⟩
   have HKS3 := Aside0.mk hks
   clear hks
   have hNd := Aside0.mk HN2.out.drew
   clear HN2
   refine seq_start impl_ReadNode.ok11_2 (S := fun w' => w'.cell? ⟨w1.heap.size, 0, none⟩ = some (.bool false) ∧ w'.cell? ⟨w1.heap.size, 1, none⟩ = some (.slice Ao1 ks1.length co1) ∧ w'.cell? ⟨w1.heap.size, 2, none⟩ = some (.slice A2 vals1.length c2) ∧ w'.cell? ⟨w1.heap.size, 3, none⟩ = some (.slice A3 kids1.length c3)) (by kernel_rfl) (fun _ _ _ _ h => h) ⟨(blk_cell hNd.out.bN 0).trans rfl, (blk_cell hNd.out.bN 1).trans rfl, (blk_cell hNd.out.bN 2).trans rfl, (blk_cell hNd.out.bN 3).trans rfl⟩ (fun hHeld => ?_)
   generalize w6.drew = wd at hNd hHeld ⊢
   iterate 2 (refine seq_p (v := ?_) (a' := ?_) rfl rfl (Or.inl ⟨by rfl, ?_⟩) ?_ ?_; rotate_left; (· intro w'; go_simp; with_reducible rfl); rotate_left; (· show Act.put _ (some _) _ = _; simp only [Act.put, List.setIfInBounds_toArray, List.set_cons_zero, List.set_cons_succ, i64_w, i32_w]; try rfl))
   (refine seq_t (v := ?_) (a' := ?_) rfl rfl (Or.inl ⟨by rfl, ?_⟩) ?_ ?_; rotate_left; (· rintro w' ⟨s0, s1, s2, s3⟩; go_simp; with_reducible rfl); rotate_left; (· show Act.put _ (some _) _ = _; simp only [Act.put, List.setIfInBounds_toArray, List.set_cons_zero, List.set_cons_succ, i64_w, i32_w]; try rfl))
   refine seq_call rfl rfl Try.func70 (by kernel_rfl) rfl #[.pointer (some ⟨w1.heap.size + 1, 0, none⟩), .int .i64 40] (by rfl) rfl (by (try simp only [List.map_toArray, List.map_cons, List.map_nil]); first | done | rfl) ?_
   with_reducible refine (impl_num_rd HX.out hs hNd.out.bR hNd.out.hR hNd.out.bel).mono ?_
   rintro e wc ⟨rfl, hIc, hbc, hkc⟩
   have hNc := Aside0.mk (hNd.out.read (by decide) (by decide) (by decide) hIc hbc hkc)
   clear hNd hIc hbc hkc
   refine ⟨_, rfl, ⟨(blk_cell hNc.out.bN 0).trans rfl, (blk_cell hNc.out.bN 1).trans rfl, (blk_cell hNc.out.bN 2).trans rfl, (blk_cell hNc.out.bN 3).trans rfl⟩, (fun hHeld => ?_)⟩
   refine seq_norm (a' := ?_) ?_ ?_; rotate_left; (· show Act.put _ (some 58) _ = _; simp only [Act.put, List.setIfInBounds_toArray, List.set_cons_zero, List.set_cons_succ, i64_w, i32_w]; try rfl)
   refine seq_e rfl rfl (fun K hK => ?_)
   refine value_ (w1 := ?_) (v := ?_) (by rfl) rfl ?_ ?_
   rotate_left 2
   ·go_simp
    constructor
    ·rfl
    ·rfl
   refine hK.out _ _ ⟨(blk_cell (blk_alloc hNc.out.bN _) 0).trans rfl, (blk_cell (blk_alloc hNc.out.bN _) 1).trans rfl, (blk_cell (blk_alloc hNc.out.bN _) 2).trans rfl, (blk_cell (blk_alloc hNc.out.bN _) 3).trans rfl⟩ (fun hHeld => ?_)
   clear hK K
   refine seq_norm (a' := ?_) ?_ ?_; rotate_left; (· show Act.put _ (some 59) _ = _; simp only [Act.put, List.setIfInBounds_toArray, List.set_cons_zero, List.set_cons_succ, i64_w, i32_w]; try rfl)
   refine seq_e rfl rfl (fun K hK => ?_)
   refine Kd.R_append_step (Kd.int .i64) (w0 := (w.alloc (.cells #[.bool false, .slice none 0 0, .slice none 0 0, .slice none 0 0] 68))) ((w.alloc (.cells #[.bool false, .slice none 0 0, .slice none 0 0, .slice none 0 0] 68))).heap.size (by rfl) (.tmp 56) (.tmp 59) 30 3 (.int .i64 0) 8 rfl Try.underlying30 info3_ rfl (by decide) (by omega) (.slice A3 kids1.length c3) kids1 x2 [.int .i64 x2] (fun _ => True) (fun _ => False) rfl rfl ?aP (fun _ hk => hk.elim) ?aF ?aO ?aB ?aS ?aL ?_
   (case aP => exact rfl)
   (case aF => exact (fun _ _ => trivial))
   (case aO => exact hNc.out.ri)
   (case aB => exact hNc.out.bel)
   (case aS => exact hNc.out.bel.size)
   (case aL => have := HLEK.out; omega)
   intro va wa ho hb hg hat
   have bNa := Aside0.mk (blk_grown hNc.out.bN hg (Kd.R_ne hNc.out.ri hNc.out.bN (by decide)))
   rw [← HKS3.out] at ho
   obtain ⟨Ao3, co3, eo⟩ := Kd.R_slice ho
   subst eo
   have hNs := Aside0.mk (hNc.out.pushKid (by decide) (by decide) ho hb hg)
   clear ho hb hg hat
   refine hK.out _ _ ⟨(blk_cell bNa.out 0).trans rfl, (blk_cell bNa.out 1).trans rfl, (blk_cell bNa.out 2).trans rfl, (blk_cell bNa.out 3).trans rfl⟩ (fun hHeld => ?_)
   clear hK K
   refine seq_norm (a' := ?_) ?_ ?_; rotate_left; (· show Act.put _ (some 60) _ = _; simp only [Act.put, List.setIfInBounds_toArray, List.set_cons_zero, List.set_cons_succ, i64_w, i32_w]; try rfl)
   (refine seq_p (v := ?_) (a' := ?_) rfl rfl (Or.inl ⟨by rfl, ?_⟩) ?_ ?_; rotate_left; (· intro w'; go_simp; with_reducible rfl); rotate_left; (· show Act.put _ (some _) _ = _; simp only [Act.put, List.setIfInBounds_toArray, List.set_cons_zero, List.set_cons_succ, i64_w, i32_w]; try rfl))
   refine seq_l rfl rfl (fun K hK => ?_)
   have hs1 : wa.cell? ⟨w1.heap.size, 3, none⟩ = some (.slice A3 kids1.length c3) := (blk_cell bNa.out 3).trans rfl
   have hf1 := blk_frozen bNa.out 3
   refine skip_ (w1 := ?_) (by rfl) rfl ?_ ?_
   rotate_left
   ·go_simp
    rfl
   refine hK.out _ _ ?_
   clear hK K
   refine seq_done ?_
   clear hNc bNa hs1 hf1 hHeld
   generalize wa.setCell ⟨w1.heap.size, 3, none⟩ _ = w7 at hNs ⊢
   have HN3 := Aside0.mk hNs.out
   clear hNs
   clear HX
   go_wp2
   have hw : wrap64 ((kk : Int) + 1) = ((kk + 1 : Nat) : Int) := by unfold wrap64; omega
   have hfin : (nIter false body 40 ⟨at0, bad0, [], [], []⟩ (kk + 1)) = ⟨a3, b3, ks1, vals1, ks3⟩ := by rw [HSTEP.out]; simp [nStep, HX1.out, HX2.out, HKS1.out, HKS3.out]
   have HW := Aside0.mk hw
   have HF := Aside0.mk hfin
   clear hw hfin
   go_roundg (kn - (kk + 1))
   case measure => omega
   case rel => exact ⟨kk + 1, Ao1, co1, A2, c2, Ao3, co3, by omega, by omega, by first | rfl | exact congrArg (Value.int .i64) HW.out, by rw [HF.out]; exact HN3⟩
  ·have hltz : ¬ (kk : Int) < (kn : Int) := by omega
   have : kk = kn := by omega
   subst this
   rw [HST.out] at HN
   simp only at HN
   have hr0 : wr.cell? ⟨w1.heap.size + 1, 1, none⟩ = some (.int .i64 at_) := (blk_cell HN.out.bR 1).trans rfl
   have hn0 : wr.cell? ⟨w1.heap.size, 0, none⟩ = some (.bool false) := (blk_cell HN.out.bN 0).trans rfl
   have hn1 : wr.cell? ⟨w1.heap.size, 1, none⟩ = some (.slice A1 keys.length c1) := (blk_cell HN.out.bN 1).trans rfl
   have hn2 : wr.cell? ⟨w1.heap.size, 2, none⟩ = some (.slice A2 vals.length c2) := (blk_cell HN.out.bN 2).trans rfl
   have hn3 : wr.cell? ⟨w1.heap.size, 3, none⟩ = some (.slice A3 kids.length c3) := (blk_cell HN.out.bN 3).trans rfl
   have hbo := Aside0.mk (HN.out.bel.block w.heap.size (by simp))
   have BO := Aside0.mk (hbo.out.trans (blk_new w _))
   clear hbo
   have hfo := blk_frozen BO.out
   have hob0 : wr.cell? ⟨w.heap.size, 0, none⟩ = some (.bool false) := (blk_cell BO.out 0).trans rfl
   have hob1 : wr.cell? ⟨w.heap.size, 1, none⟩ = some (.slice none 0 0) := (blk_cell BO.out 1).trans rfl
   have hob2 : wr.cell? ⟨w.heap.size, 2, none⟩ = some (.slice none 0 0) := (blk_cell BO.out 2).trans rfl
   have hob3 : wr.cell? ⟨w.heap.size, 3, none⟩ = some (.slice none 0 0) := (blk_cell BO.out 3).trans rfl
   have hlo := blk_lt BO.out
   rcases HRES.out with ⟨e1, e2, e3, e4, e5⟩ | ⟨e1, e4, e5⟩
   ·subst e1 e4 e5
    have hr1 : wr.cell? ⟨w1.heap.size + 1, 2, none⟩ = some (.bool false) := (blk_cell HN.out.bR 2).trans rfl
    have hq := Aside0.mk e2
    have hq1 : (at_ != (body.size : Int)) = false := by rw [e2]; simp
    have HOK := Aside0.mk (show impl_NodeOk.f false keys vals kids = some true from congrArg some e3)
    have hlN := blk_lt HN.out.bN
    clear e2 e3
    go_wp2_with fail
    ((with_reducible refine (impl_NodeOk.calls false A1 c1 keys A2 c2 vals A3 c3 kids true _ (R_seen HN.out.rk).2 (R_seen HN.out.rk).1 (R_seen HN.out.rv).2 (R_seen HN.out.rv).1 (R_seen HN.out.ri).2 (R_seen HN.out.ri).1 HOK.out).mono ?_); rintro e w5 ⟨rfl, hb5⟩)
    obtain ⟨hc5, hf5⟩ := bcell hb5
    have BO5 := Aside0.mk (blk_below BO.out hb5)
    have HN5 := Aside0.mk (HN.out.below hb5)
    clear hb5
    go_wp2
    have B1 := blk_put BO5.out 0 (.bool false) rfl
    have B2 := blk_put B1 1 (.slice A1 keys.length c1) rfl
    have B3 := blk_put B2 2 (.slice A2 vals.length c2) rfl
    have B4 := blk_put B3 3 (.slice A3 kids.length c3) rfl
    refine bodyPost_ret (results_ct rfl _ _ w.heap.size 68 #[.bool false, .slice A1 keys.length c1, .slice A2 vals.length c2, .slice A3 kids.length c3] (0, 0) _ rfl B4 Try.underlying68 rfl (by kernel_rfl)) rfl ?_
    exact node_post (n := ⟨false, keys, vals, kids⟩) (Kd.R_lower (four_set HN5.out.rk BO5.out B1 B2 B3 (by decide)) (by simp)) (Kd.R_lower (four_set HN5.out.rv BO5.out B1 B2 B3 (by decide)) (by simp)) (Kd.R_lower (four_set HN5.out.ri BO5.out B1 B2 B3 (by decide)) (by simp)) (four_below w.heap.size (base_below HN5.out.bel) (Nat.le_refl _))
   ·subst e4 e5
    cases hbad : bad with
    | true =>
     subst hbad
     have hr1 : wr.cell? ⟨w1.heap.size + 1, 2, none⟩ = some (.bool true) := (blk_cell HN.out.bR 2).trans rfl
     go_wp2
     have B1 := blk_put BO.out 0 (.bool false) rfl
     have B2 := blk_put B1 1 (.slice none 0 0) rfl
     have B3 := blk_put B2 2 (.slice none 0 0) rfl
     have B4 := blk_put B3 3 (.slice none 0 0) rfl
     refine bodyPost_ret (results_ct rfl _ _ w.heap.size 68 #[.bool false, .slice none 0 0, .slice none 0 0, .slice none 0 0] (0, 0) _ rfl B4 Try.underlying68 rfl (by kernel_rfl)) rfl ?_
     exact node_post (n := z68) (Kd.R_nil _ _ _ _ _) (Kd.R_nil _ _ _ _ _) (Kd.R_nil _ _ _ _ _) (four_below w.heap.size (base_below HN.out.bel) (Nat.le_refl _))
    | false =>
     subst hbad
     have hr1 : wr.cell? ⟨w1.heap.size + 1, 2, none⟩ = some (.bool false) := (blk_cell HN.out.bR 2).trans rfl
     by_cases hq : at_ = (body.size : Int)
     ·have hq1 : (at_ != (body.size : Int)) = false := by rw [hq]; simp
      have e3 : nodeOkB false keys vals kids = false := by
       rcases e1 with e | e | e
       ·cases e
       ·exact absurd hq e
       ·exact e
      have HQ := Aside0.mk hq
      have HOK := Aside0.mk (show impl_NodeOk.f false keys vals kids = some false from congrArg some e3)
      have hlN := blk_lt HN.out.bN
      clear e1 e3 hq
      go_wp2_with fail
      ((with_reducible refine (impl_NodeOk.calls false A1 c1 keys A2 c2 vals A3 c3 kids false _ (R_seen HN.out.rk).2 (R_seen HN.out.rk).1 (R_seen HN.out.rv).2 (R_seen HN.out.rv).1 (R_seen HN.out.ri).2 (R_seen HN.out.ri).1 HOK.out).mono ?_); rintro e w5 ⟨rfl, hb5⟩)
      obtain ⟨hc5, hf5⟩ := bcell hb5
      have BO5 := Aside0.mk (blk_below BO.out hb5)
      have HN5 := Aside0.mk (HN.out.below hb5)
      clear hb5
      go_wp2
      have B1 := blk_put BO5.out 0 (.bool false) rfl
      have B2 := blk_put B1 1 (.slice none 0 0) rfl
      have B3 := blk_put B2 2 (.slice none 0 0) rfl
      have B4 := blk_put B3 3 (.slice none 0 0) rfl
      refine bodyPost_ret (results_ct rfl _ _ w.heap.size 68 #[.bool false, .slice none 0 0, .slice none 0 0, .slice none 0 0] (0, 0) _ rfl B4 Try.underlying68 rfl (by kernel_rfl)) rfl ?_
      exact node_post (n := z68) (Kd.R_nil _ _ _ _ _) (Kd.R_nil _ _ _ _ _) (Kd.R_nil _ _ _ _ _) (four_below w.heap.size (base_below HN5.out.bel) (Nat.le_refl _))
     ·have hq1 : (at_ != (body.size : Int)) = true := by simpa using hq
      have hq2 : decide (at_ = (body.size : Int)) = false := decide_eq_false hq
      have HQ := Aside0.mk hq
      clear hq e1
      go_wp2
      have B1 := blk_put BO.out 0 (.bool false) rfl
      have B2 := blk_put B1 1 (.slice none 0 0) rfl
      have B3 := blk_put B2 2 (.slice none 0 0) rfl
      have B4 := blk_put B3 3 (.slice none 0 0) rfl
      refine bodyPost_ret (results_ct rfl _ _ w.heap.size 68 #[.bool false, .slice none 0 0, .slice none 0 0, .slice none 0 0] (0, 0) _ rfl B4 Try.underlying68 rfl (by kernel_rfl)) rfl ?_
      exact node_post (n := z68) (Kd.R_nil _ _ _ _ _) (Kd.R_nil _ _ _ _ _) (Kd.R_nil _ _ _ _ _) (four_below w.heap.size (base_below HN.out.bel) (Nat.le_refl _))
theorem readNode_other (k : Nat) (t body : ByteArray) (w : World) (hu : impl_Unsealed.f k t = some (body, true)) (hs : body.size ≤ 140737488351232) (h0 : 0 < body.size) (b0 : Int) (hb0 : ∀ h : 0 < body.size, ((body[0]'h).toNat : Int) = b0) (hb1 : (b0 == 108) = false) (hb2 : (b0 != 108) = true) (hb3 : (b0 != 98) = true) (kn : Nat) (at0 : Int) (bad0 : Bool) (hk : rNum body 1 true 4 = ((kn : Int), at0, bad0)) (hkn : kn ≤ 4) (at_ : Int) (bad : Bool) (keys vals : List ByteArray) (kids : List Int) (hst : nIter false body 40 ⟨at0, bad0, [], [], []⟩ kn = ⟨at_, bad, keys, vals, kids⟩) (n : S68) (ok : Bool) (hres : (bad = false ∧ at_ = (body.size : Int) ∧ nodeOkB false keys vals kids = true ∧ n = ⟨false, keys, vals, kids⟩ ∧ ok = true) ∨ ((bad = true ∨ ¬ at_ = (body.size : Int) ∨ nodeOkB false keys vals kids = false) ∧ n = z68 ∧ ok = false)) :
  Calls Try.prog 30 #[.string t] w (NodePost w n ok) := by
 have HU := Aside0.mk hu
 have HK := Aside0.mk hk
 have HST := Aside0.mk hst
 have HRES := Aside0.mk hres
 obtain ⟨HL0, HL2⟩ := toList_ne body h0
 have HL1 : (!body.toList.isEmpty) = true := by rw [HL2]; rfl
 clear hu hk hst hres
 go_enter Try.func30, Try.ntmps30
 go_wp2_with fail
 ((with_reducible refine (impl_Unsealed.calls k t body true _ HU.out).mono ?_); rintro e w1 ⟨rfl, hb1⟩)
 obtain ⟨hc1, hf1⟩ := bcell hb1
 have hz1 : w.heap.size < w1.heap.size := by have hh := hb1.size; (try simp at hh); omega
 have HB1 := Aside0.mk hb1
 clear hb1
 have HI := Aside0.mk (show NInv (w.alloc (.cells #[.bool false, .slice none 0 0, .slice none 0 0, .slice none 0 0] 68)) ((w1.alloc (.cells #[.bool false, .slice none 0 0, .slice none 0 0, .slice none 0 0] 68)).alloc (.cells #[.string body, .int .i64 1, .bool true] 114)) w1.heap.size (w1.heap.size + 1) 114 body false (.slice none 0 0) (.slice none 0 0) (.slice none 0 0) 1 true [] [] [] from
  ⟨blk_alloc (blk_new w1 _) _, by have z := blk_new (w1.alloc (.cells #[.bool false, .slice none 0 0, .slice none 0 0, .slice none 0 0] 68)) (.cells #[.string body, .int .i64 1, .bool true] 114); simpa using z, by simp; omega, by simp; omega, Kd.R_nil _ _ _ _ _, Kd.R_nil _ _ _ _ _, Kd.R_nil _ _ _ _ _, fun k hk => by simp [Value.ownBlock] at hk, below_alloc (below_alloc HB1.out _) _⟩)
 go_wp2_with fail
 ((with_reducible refine (impl_num_rd HK.out hs HI.out.bR HI.out.hR HI.out.bel).mono ?_); rintro e w2 ⟨rfl, hI2, hb2, hk2⟩)
 have HN0 := Aside0.mk (HI.out.read (by decide) (by decide) (by decide) hI2 hb2 hk2)
 clear HI hI2 hb2 hk2 hc1 hf1
 go_wp2_with fail
 go_loopg [37] kn (fun gg s37 wr => ∃ (kk : Nat) (A1 : Option Addr) (c1 : Nat) (A2 : Option Addr) (c2 : Nat) (A3 : Option Addr) (c3 : Nat), kk ≤ kn ∧ kn - kk ≤ gg ∧ s37 = .int .i64 kk ∧ Aside0 (NInv (w.alloc (.cells #[.bool false, .slice none 0 0, .slice none 0 0, .slice none 0 0] 68)) wr w1.heap.size (w1.heap.size + 1) 114 body false (.slice A1 (nIter false body 40 ⟨at0, bad0, [], [], []⟩ kk).keys.length c1) (.slice A2 (nIter false body 40 ⟨at0, bad0, [], [], []⟩ kk).vals.length c2) (.slice A3 (nIter false body 40 ⟨at0, bad0, [], [], []⟩ kk).kids.length c3) (nIter false body 40 ⟨at0, bad0, [], [], []⟩ kk).at_ (nIter false body 40 ⟨at0, bad0, [], [], []⟩ kk).bad (nIter false body 40 ⟨at0, bad0, [], [], []⟩ kk).keys (nIter false body 40 ⟨at0, bad0, [], [], []⟩ kk).vals (nIter false body 40 ⟨at0, bad0, [], [], []⟩ kk).kids))
 case atStart => exact ⟨0, none, 0, none, 0, none, 0, Nat.zero_le _, by omega, rfl, HN0⟩
 case round =>
  clear HN0
  obtain ⟨kk, A1, c1, A2, c2, A3, c3, hkk, hg, rfl, HN⟩ := hrel
  by_cases hlt : kk < kn
  ·have hltz : (kk : Int) < (kn : Int) := by omega
   have HLEN0 := nIter_len false body 40 ⟨at0, bad0, [], [], []⟩ rfl rfl rfl kk
   have HSTEP := Aside0.mk (show (nIter false body 40 ⟨at0, bad0, [], [], []⟩ (kk + 1)) = nStep false body 40 (nIter false body 40 ⟨at0, bad0, [], [], []⟩ kk) from rfl)
   generalize hsk : nIter false body 40 ⟨at0, bad0, [], [], []⟩ kk = sk at HN HLEN0 HSTEP
   obtain ⟨a1, b1, keys1, vals1, kids1⟩ := sk
   clear hsk
   simp only at HN HLEN0
   obtain ⟨x1, a2, b2, hx⟩ : ∃ x1 a2 b2, rText body a1 b1 = (x1, a2, b2) := ⟨_, _, _, rfl⟩
   have HX := Aside0.mk hx
   have HX1 := Aside0.mk hx
   clear hx
   have HLEN := Aside0.mk (show keys1.length ≤ 4 by omega)
   have HLEV := Aside0.mk (show vals1.length ≤ 4 by omega)
   have HLEK := Aside0.mk (show kids1.length ≤ 4 by omega)
   clear HLEN0
   go_wp2_with fail
   obtain ⟨ks1, hks⟩ : ∃ z, z = keys1 ++ [x1] := ⟨_, rfl⟩
   have HKS1 := Aside0.mk hks
   clear hks
   have hNd := Aside0.mk HN.out.drew
   clear HN
   refine seq_start impl_ReadNode.ok8_0 (S := fun w' => w'.cell? ⟨w1.heap.size, 0, none⟩ = some (.bool false) ∧ w'.cell? ⟨w1.heap.size, 1, none⟩ = some (.slice A1 keys1.length c1) ∧ w'.cell? ⟨w1.heap.size, 2, none⟩ = some (.slice A2 vals1.length c2) ∧ w'.cell? ⟨w1.heap.size, 3, none⟩ = some (.slice A3 kids1.length c3)) (by kernel_rfl) (fun _ _ _ _ h => h) ⟨(blk_cell hNd.out.bN 0).trans rfl, (blk_cell hNd.out.bN 1).trans rfl, (blk_cell hNd.out.bN 2).trans rfl, (blk_cell hNd.out.bN 3).trans rfl⟩ (fun hHeld => ?_)
   generalize wr.drew = wd at hNd hHeld ⊢
   iterate 2 (refine seq_p (v := ?_) (a' := ?_) rfl rfl (Or.inl ⟨by rfl, ?_⟩) ?_ ?_; rotate_left; (· intro w'; go_simp; with_reducible rfl); rotate_left; (· show Act.put _ (some _) _ = _; simp only [Act.put, List.setIfInBounds_toArray, List.set_cons_zero, List.set_cons_succ, i64_w, i32_w]; try rfl))
   (refine seq_t (v := ?_) (a' := ?_) rfl rfl (Or.inl ⟨by rfl, ?_⟩) ?_ ?_; rotate_left; (· rintro w' ⟨s0, s1, s2, s3⟩; go_simp; with_reducible rfl); rotate_left; (· show Act.put _ (some _) _ = _; simp only [Act.put, List.setIfInBounds_toArray, List.set_cons_zero, List.set_cons_succ, i64_w, i32_w]; try rfl))
   refine seq_call rfl rfl Try.func88 (by kernel_rfl) rfl #[.pointer (some ⟨w1.heap.size + 1, 0, none⟩)] (by rfl) rfl (by (try simp only [List.map_toArray, List.map_cons, List.map_nil]); first | done | rfl) ?_
   with_reducible refine (impl_text_rd HX.out hs hNd.out.bR hNd.out.hR hNd.out.bel).mono ?_
   rintro e wc ⟨rfl, hIc, hbc, hkc⟩
   have hNc := Aside0.mk (hNd.out.read (by decide) (by decide) (by decide) hIc hbc hkc)
   clear hNd hIc hbc hkc
   refine ⟨_, rfl, ⟨(blk_cell hNc.out.bN 0).trans rfl, (blk_cell hNc.out.bN 1).trans rfl, (blk_cell hNc.out.bN 2).trans rfl, (blk_cell hNc.out.bN 3).trans rfl⟩, (fun hHeld => ?_)⟩
   refine seq_norm (a' := ?_) ?_ ?_; rotate_left; (· show Act.put _ (some 42) _ = _; simp only [Act.put, List.setIfInBounds_toArray, List.set_cons_zero, List.set_cons_succ, i64_w, i32_w]; try rfl)
   refine seq_e rfl rfl (fun K hK => ?_)
   refine value_ (w1 := ?_) (v := ?_) (by rfl) rfl ?_ ?_
   rotate_left 2
   ·go_simp
    constructor
    ·rfl
    ·rfl
   refine hK.out _ _ ⟨(blk_cell (blk_alloc hNc.out.bN _) 0).trans rfl, (blk_cell (blk_alloc hNc.out.bN _) 1).trans rfl, (blk_cell (blk_alloc hNc.out.bN _) 2).trans rfl, (blk_cell (blk_alloc hNc.out.bN _) 3).trans rfl⟩ (fun hHeld => ?_)
   clear hK K
   refine seq_norm (a' := ?_) ?_ ?_; rotate_left; (· show Act.put _ (some 43) _ = _; simp only [Act.put, List.setIfInBounds_toArray, List.set_cons_zero, List.set_cons_succ, i64_w, i32_w]; try rfl)
   refine seq_e rfl rfl (fun K hK => ?_)
   refine Kd.R_append_step Kd.string (w0 := (w.alloc (.cells #[.bool false, .slice none 0 0, .slice none 0 0, .slice none 0 0] 68))) ((w.alloc (.cells #[.bool false, .slice none 0 0, .slice none 0 0, .slice none 0 0] 68))).heap.size (by rfl) (.tmp 40) (.tmp 43) 22 9 (.string ⟨#[]⟩) 16 rfl Try.underlying22 info9 rfl (by decide) (by omega) (.slice A1 keys1.length c1) keys1 x1 [.string x1] (fun _ => True) (fun _ => False) rfl rfl ?aP (fun _ hk => hk.elim) ?aF ?aO ?aB ?aS ?aL ?_
   (case aP => exact rfl)
   (case aF => exact (fun _ _ => trivial))
   (case aO => exact hNc.out.rk)
   (case aB => exact hNc.out.bel)
   (case aS => exact hNc.out.bel.size)
   (case aL => have := HLEN.out; omega)
   intro va wa ho hb hg hat
   have bNa := Aside0.mk (blk_grown hNc.out.bN hg (Kd.R_ne hNc.out.rk hNc.out.bN (by decide)))
   rw [← HKS1.out] at ho
   obtain ⟨Ao1, co1, eo⟩ := Kd.R_slice ho
   subst eo
   have hNs := Aside0.mk (hNc.out.pushKey (by decide) (by decide) ho hb hg hat)
   clear ho hb hg hat
   refine hK.out _ _ ⟨(blk_cell bNa.out 0).trans rfl, (blk_cell bNa.out 1).trans rfl, (blk_cell bNa.out 2).trans rfl, (blk_cell bNa.out 3).trans rfl⟩ (fun hHeld => ?_)
   clear hK K
   refine seq_norm (a' := ?_) ?_ ?_; rotate_left; (· show Act.put _ (some 44) _ = _; simp only [Act.put, List.setIfInBounds_toArray, List.set_cons_zero, List.set_cons_succ, i64_w, i32_w]; try rfl)
   (refine seq_p (v := ?_) (a' := ?_) rfl rfl (Or.inl ⟨by rfl, ?_⟩) ?_ ?_; rotate_left; (· intro w'; go_simp; with_reducible rfl); rotate_left; (· show Act.put _ (some _) _ = _; simp only [Act.put, List.setIfInBounds_toArray, List.set_cons_zero, List.set_cons_succ, i64_w, i32_w]; try rfl))
   refine seq_l rfl rfl (fun K hK => ?_)
   have hs1 : wa.cell? ⟨w1.heap.size, 1, none⟩ = some (.slice A1 keys1.length c1) := (blk_cell bNa.out 1).trans rfl
   have hf1 := blk_frozen bNa.out 1
   refine skip_ (w1 := ?_) (by rfl) rfl ?_ ?_
   rotate_left
   ·go_simp
    rfl
   refine hK.out _ _ ?_
   clear hK K
   refine seq_done ?_
   clear hNc bNa hs1 hf1 hHeld
   generalize wa.setCell ⟨w1.heap.size, 1, none⟩ _ = w6 at hNs ⊢
   have HN2 := Aside0.mk hNs.out
   clear hNs
   clear HX HLEN
   have hcl : w6.cell? ⟨w1.heap.size, 0, none⟩ = some (.bool false) := (blk_cell HN2.out.bN 0).trans rfl
   obtain ⟨x2, a3, b3, hx⟩ : ∃ x2 a3 b3, rNum body a2 b2 40 = (x2, a3, b3) := ⟨_, _, _, rfl⟩
   have HX := Aside0.mk hx
   have HX2 := Aside0.mk hx
   clear hx
   go_wp2_with fail
   obtain ⟨ks3, hks⟩ : ∃ z, z = kids1 ++ [x2] := ⟨_, rfl⟩
   have HKS3 := Aside0.mk hks
   clear hks
   have hNd := Aside0.mk HN2.out.drew
   clear HN2
   refine seq_start impl_ReadNode.ok11_2 (S := fun w' => w'.cell? ⟨w1.heap.size, 0, none⟩ = some (.bool false) ∧ w'.cell? ⟨w1.heap.size, 1, none⟩ = some (.slice Ao1 ks1.length co1) ∧ w'.cell? ⟨w1.heap.size, 2, none⟩ = some (.slice A2 vals1.length c2) ∧ w'.cell? ⟨w1.heap.size, 3, none⟩ = some (.slice A3 kids1.length c3)) (by kernel_rfl) (fun _ _ _ _ h => h) ⟨(blk_cell hNd.out.bN 0).trans rfl, (blk_cell hNd.out.bN 1).trans rfl, (blk_cell hNd.out.bN 2).trans rfl, (blk_cell hNd.out.bN 3).trans rfl⟩ (fun hHeld => ?_)
   generalize w6.drew = wd at hNd hHeld ⊢
   iterate 2 (refine seq_p (v := ?_) (a' := ?_) rfl rfl (Or.inl ⟨by rfl, ?_⟩) ?_ ?_; rotate_left; (· intro w'; go_simp; with_reducible rfl); rotate_left; (· show Act.put _ (some _) _ = _; simp only [Act.put, List.setIfInBounds_toArray, List.set_cons_zero, List.set_cons_succ, i64_w, i32_w]; try rfl))
   (refine seq_t (v := ?_) (a' := ?_) rfl rfl (Or.inl ⟨by rfl, ?_⟩) ?_ ?_; rotate_left; (· rintro w' ⟨s0, s1, s2, s3⟩; go_simp; with_reducible rfl); rotate_left; (· show Act.put _ (some _) _ = _; simp only [Act.put, List.setIfInBounds_toArray, List.set_cons_zero, List.set_cons_succ, i64_w, i32_w]; try rfl))
   refine seq_call rfl rfl Try.func70 (by kernel_rfl) rfl #[.pointer (some ⟨w1.heap.size + 1, 0, none⟩), .int .i64 40] (by rfl) rfl (by (try simp only [List.map_toArray, List.map_cons, List.map_nil]); first | done | rfl) ?_
   with_reducible refine (impl_num_rd HX.out hs hNd.out.bR hNd.out.hR hNd.out.bel).mono ?_
   rintro e wc ⟨rfl, hIc, hbc, hkc⟩
   have hNc := Aside0.mk (hNd.out.read (by decide) (by decide) (by decide) hIc hbc hkc)
   clear hNd hIc hbc hkc
   refine ⟨_, rfl, ⟨(blk_cell hNc.out.bN 0).trans rfl, (blk_cell hNc.out.bN 1).trans rfl, (blk_cell hNc.out.bN 2).trans rfl, (blk_cell hNc.out.bN 3).trans rfl⟩, (fun hHeld => ?_)⟩
   refine seq_norm (a' := ?_) ?_ ?_; rotate_left; (· show Act.put _ (some 58) _ = _; simp only [Act.put, List.setIfInBounds_toArray, List.set_cons_zero, List.set_cons_succ, i64_w, i32_w]; try rfl)
   refine seq_e rfl rfl (fun K hK => ?_)
   refine value_ (w1 := ?_) (v := ?_) (by rfl) rfl ?_ ?_
   rotate_left 2
   ·go_simp
    constructor
    ·rfl
    ·rfl
   refine hK.out _ _ ⟨(blk_cell (blk_alloc hNc.out.bN _) 0).trans rfl, (blk_cell (blk_alloc hNc.out.bN _) 1).trans rfl, (blk_cell (blk_alloc hNc.out.bN _) 2).trans rfl, (blk_cell (blk_alloc hNc.out.bN _) 3).trans rfl⟩ (fun hHeld => ?_)
   clear hK K
   refine seq_norm (a' := ?_) ?_ ?_; rotate_left; (· show Act.put _ (some 59) _ = _; simp only [Act.put, List.setIfInBounds_toArray, List.set_cons_zero, List.set_cons_succ, i64_w, i32_w]; try rfl)
   refine seq_e rfl rfl (fun K hK => ?_)
   refine Kd.R_append_step (Kd.int .i64) (w0 := (w.alloc (.cells #[.bool false, .slice none 0 0, .slice none 0 0, .slice none 0 0] 68))) ((w.alloc (.cells #[.bool false, .slice none 0 0, .slice none 0 0, .slice none 0 0] 68))).heap.size (by rfl) (.tmp 56) (.tmp 59) 30 3 (.int .i64 0) 8 rfl Try.underlying30 info3_ rfl (by decide) (by omega) (.slice A3 kids1.length c3) kids1 x2 [.int .i64 x2] (fun _ => True) (fun _ => False) rfl rfl ?aP (fun _ hk => hk.elim) ?aF ?aO ?aB ?aS ?aL ?_
   (case aP => exact rfl)
   (case aF => exact (fun _ _ => trivial))
   (case aO => exact hNc.out.ri)
   (case aB => exact hNc.out.bel)
   (case aS => exact hNc.out.bel.size)
   (case aL => have := HLEK.out; omega)
   intro va wa ho hb hg hat
   have bNa := Aside0.mk (blk_grown hNc.out.bN hg (Kd.R_ne hNc.out.ri hNc.out.bN (by decide)))
   rw [← HKS3.out] at ho
   obtain ⟨Ao3, co3, eo⟩ := Kd.R_slice ho
   subst eo
   have hNs := Aside0.mk (hNc.out.pushKid (by decide) (by decide) ho hb hg)
   clear ho hb hg hat
   refine hK.out _ _ ⟨(blk_cell bNa.out 0).trans rfl, (blk_cell bNa.out 1).trans rfl, (blk_cell bNa.out 2).trans rfl, (blk_cell bNa.out 3).trans rfl⟩ (fun hHeld => ?_)
   clear hK K
   refine seq_norm (a' := ?_) ?_ ?_; rotate_left; (· show Act.put _ (some 60) _ = _; simp only [Act.put, List.setIfInBounds_toArray, List.set_cons_zero, List.set_cons_succ, i64_w, i32_w]; try rfl)
   (refine seq_p (v := ?_) (a' := ?_) rfl rfl (Or.inl ⟨by rfl, ?_⟩) ?_ ?_; rotate_left; (· intro w'; go_simp; with_reducible rfl); rotate_left; (· show Act.put _ (some _) _ = _; simp only [Act.put, List.setIfInBounds_toArray, List.set_cons_zero, List.set_cons_succ, i64_w, i32_w]; try rfl))
   refine seq_l rfl rfl (fun K hK => ?_)
   have hs1 : wa.cell? ⟨w1.heap.size, 3, none⟩ = some (.slice A3 kids1.length c3) := (blk_cell bNa.out 3).trans rfl
   have hf1 := blk_frozen bNa.out 3
   refine skip_ (w1 := ?_) (by rfl) rfl ?_ ?_
   rotate_left
   ·go_simp
    rfl
   refine hK.out _ _ ?_
   clear hK K
   refine seq_done ?_
   clear hNc bNa hs1 hf1 hHeld
   generalize wa.setCell ⟨w1.heap.size, 3, none⟩ _ = w7 at hNs ⊢
   have HN3 := Aside0.mk hNs.out
   clear hNs
   clear HX
   go_wp2
   have hw : wrap64 ((kk : Int) + 1) = ((kk + 1 : Nat) : Int) := by unfold wrap64; omega
   have hfin : (nIter false body 40 ⟨at0, bad0, [], [], []⟩ (kk + 1)) = ⟨a3, b3, ks1, vals1, ks3⟩ := by rw [HSTEP.out]; simp [nStep, HX1.out, HX2.out, HKS1.out, HKS3.out]
   have HW := Aside0.mk hw
   have HF := Aside0.mk hfin
   clear hw hfin
   go_roundg (kn - (kk + 1))
   case measure => omega
   case rel => exact ⟨kk + 1, Ao1, co1, A2, c2, Ao3, co3, by omega, by omega, by first | rfl | exact congrArg (Value.int .i64) HW.out, by rw [HF.out]; exact HN3⟩
  ·have hltz : ¬ (kk : Int) < (kn : Int) := by omega
   have : kk = kn := by omega
   subst this
   rw [HST.out] at HN
   simp only at HN
   have hr0 : wr.cell? ⟨w1.heap.size + 1, 1, none⟩ = some (.int .i64 at_) := (blk_cell HN.out.bR 1).trans rfl
   have hn0 : wr.cell? ⟨w1.heap.size, 0, none⟩ = some (.bool false) := (blk_cell HN.out.bN 0).trans rfl
   have hn1 : wr.cell? ⟨w1.heap.size, 1, none⟩ = some (.slice A1 keys.length c1) := (blk_cell HN.out.bN 1).trans rfl
   have hn2 : wr.cell? ⟨w1.heap.size, 2, none⟩ = some (.slice A2 vals.length c2) := (blk_cell HN.out.bN 2).trans rfl
   have hn3 : wr.cell? ⟨w1.heap.size, 3, none⟩ = some (.slice A3 kids.length c3) := (blk_cell HN.out.bN 3).trans rfl
   have hbo := Aside0.mk (HN.out.bel.block w.heap.size (by simp))
   have BO := Aside0.mk (hbo.out.trans (blk_new w _))
   clear hbo
   have hfo := blk_frozen BO.out
   have hob0 : wr.cell? ⟨w.heap.size, 0, none⟩ = some (.bool false) := (blk_cell BO.out 0).trans rfl
   have hob1 : wr.cell? ⟨w.heap.size, 1, none⟩ = some (.slice none 0 0) := (blk_cell BO.out 1).trans rfl
   have hob2 : wr.cell? ⟨w.heap.size, 2, none⟩ = some (.slice none 0 0) := (blk_cell BO.out 2).trans rfl
   have hob3 : wr.cell? ⟨w.heap.size, 3, none⟩ = some (.slice none 0 0) := (blk_cell BO.out 3).trans rfl
   have hlo := blk_lt BO.out
   rcases HRES.out with ⟨e1, e2, e3, e4, e5⟩ | ⟨e1, e4, e5⟩
   ·subst e1 e4 e5
    have hr1 : wr.cell? ⟨w1.heap.size + 1, 2, none⟩ = some (.bool false) := (blk_cell HN.out.bR 2).trans rfl
    have hq := Aside0.mk e2
    have hq1 : (at_ != (body.size : Int)) = false := by rw [e2]; simp
    have HOK := Aside0.mk (show impl_NodeOk.f false keys vals kids = some true from congrArg some e3)
    have hlN := blk_lt HN.out.bN
    clear e2 e3
    go_wp2_with fail
    ((with_reducible refine (impl_NodeOk.calls false A1 c1 keys A2 c2 vals A3 c3 kids true _ (R_seen HN.out.rk).2 (R_seen HN.out.rk).1 (R_seen HN.out.rv).2 (R_seen HN.out.rv).1 (R_seen HN.out.ri).2 (R_seen HN.out.ri).1 HOK.out).mono ?_); rintro e w5 ⟨rfl, hb5⟩)
    obtain ⟨hc5, hf5⟩ := bcell hb5
    have BO5 := Aside0.mk (blk_below BO.out hb5)
    have HN5 := Aside0.mk (HN.out.below hb5)
    clear hb5
    go_wp2
    have B1 := blk_put BO5.out 0 (.bool false) rfl
    have B2 := blk_put B1 1 (.slice A1 keys.length c1) rfl
    have B3 := blk_put B2 2 (.slice A2 vals.length c2) rfl
    have B4 := blk_put B3 3 (.slice A3 kids.length c3) rfl
    refine bodyPost_ret (results_ct rfl _ _ w.heap.size 68 #[.bool false, .slice A1 keys.length c1, .slice A2 vals.length c2, .slice A3 kids.length c3] (0, 0) _ rfl B4 Try.underlying68 rfl (by kernel_rfl)) rfl ?_
    exact node_post (n := ⟨false, keys, vals, kids⟩) (Kd.R_lower (four_set HN5.out.rk BO5.out B1 B2 B3 (by decide)) (by simp)) (Kd.R_lower (four_set HN5.out.rv BO5.out B1 B2 B3 (by decide)) (by simp)) (Kd.R_lower (four_set HN5.out.ri BO5.out B1 B2 B3 (by decide)) (by simp)) (four_below w.heap.size (base_below HN5.out.bel) (Nat.le_refl _))
   ·subst e4 e5
    cases hbad : bad with
    | true =>
     subst hbad
     have hr1 : wr.cell? ⟨w1.heap.size + 1, 2, none⟩ = some (.bool true) := (blk_cell HN.out.bR 2).trans rfl
     go_wp2
     have B1 := blk_put BO.out 0 (.bool false) rfl
     have B2 := blk_put B1 1 (.slice none 0 0) rfl
     have B3 := blk_put B2 2 (.slice none 0 0) rfl
     have B4 := blk_put B3 3 (.slice none 0 0) rfl
     refine bodyPost_ret (results_ct rfl _ _ w.heap.size 68 #[.bool false, .slice none 0 0, .slice none 0 0, .slice none 0 0] (0, 0) _ rfl B4 Try.underlying68 rfl (by kernel_rfl)) rfl ?_
     exact node_post (n := z68) (Kd.R_nil _ _ _ _ _) (Kd.R_nil _ _ _ _ _) (Kd.R_nil _ _ _ _ _) (four_below w.heap.size (base_below HN.out.bel) (Nat.le_refl _))
    | false =>
     subst hbad
     have hr1 : wr.cell? ⟨w1.heap.size + 1, 2, none⟩ = some (.bool false) := (blk_cell HN.out.bR 2).trans rfl
     by_cases hq : at_ = (body.size : Int)
     ·have hq1 : (at_ != (body.size : Int)) = false := by rw [hq]; simp
      have e3 : nodeOkB false keys vals kids = false := by
       rcases e1 with e | e | e
       ·cases e
       ·exact absurd hq e
       ·exact e
      have HQ := Aside0.mk hq
      have HOK := Aside0.mk (show impl_NodeOk.f false keys vals kids = some false from congrArg some e3)
      have hlN := blk_lt HN.out.bN
      clear e1 e3 hq
      go_wp2_with fail
      ((with_reducible refine (impl_NodeOk.calls false A1 c1 keys A2 c2 vals A3 c3 kids false _ (R_seen HN.out.rk).2 (R_seen HN.out.rk).1 (R_seen HN.out.rv).2 (R_seen HN.out.rv).1 (R_seen HN.out.ri).2 (R_seen HN.out.ri).1 HOK.out).mono ?_); rintro e w5 ⟨rfl, hb5⟩)
      obtain ⟨hc5, hf5⟩ := bcell hb5
      have BO5 := Aside0.mk (blk_below BO.out hb5)
      have HN5 := Aside0.mk (HN.out.below hb5)
      clear hb5
      go_wp2
      have B1 := blk_put BO5.out 0 (.bool false) rfl
      have B2 := blk_put B1 1 (.slice none 0 0) rfl
      have B3 := blk_put B2 2 (.slice none 0 0) rfl
      have B4 := blk_put B3 3 (.slice none 0 0) rfl
      refine bodyPost_ret (results_ct rfl _ _ w.heap.size 68 #[.bool false, .slice none 0 0, .slice none 0 0, .slice none 0 0] (0, 0) _ rfl B4 Try.underlying68 rfl (by kernel_rfl)) rfl ?_
      exact node_post (n := z68) (Kd.R_nil _ _ _ _ _) (Kd.R_nil _ _ _ _ _) (Kd.R_nil _ _ _ _ _) (four_below w.heap.size (base_below HN5.out.bel) (Nat.le_refl _))
     ·have hq1 : (at_ != (body.size : Int)) = true := by simpa using hq
      have hq2 : decide (at_ = (body.size : Int)) = false := decide_eq_false hq
      have HQ := Aside0.mk hq
      clear hq e1
      go_wp2
      have B1 := blk_put BO.out 0 (.bool false) rfl
      have B2 := blk_put B1 1 (.slice none 0 0) rfl
      have B3 := blk_put B2 2 (.slice none 0 0) rfl
      have B4 := blk_put B3 3 (.slice none 0 0) rfl
      refine bodyPost_ret (results_ct rfl _ _ w.heap.size 68 #[.bool false, .slice none 0 0, .slice none 0 0, .slice none 0 0] (0, 0) _ rfl B4 Try.underlying68 rfl (by kernel_rfl)) rfl ?_
      exact node_post (n := z68) (Kd.R_nil _ _ _ _ _) (Kd.R_nil _ _ _ _ _) (Kd.R_nil _ _ _ _ _) (four_below w.heap.size (base_below HN.out.bel) (Nat.le_refl _))
theorem readNode_no (k : Nat) (t body : ByteArray) (w : World) (hu : impl_Unsealed.f k t = some (body, false))  :
  Calls Try.prog 30 #[.string t] w (NodePost w z68 false) := by
 have HU := Aside0.mk hu
 clear hu
 go_enter Try.func30, Try.ntmps30
 go_wp2_with fail
 ((with_reducible refine (impl_Unsealed.calls k t body false _ HU.out).mono ?_); rintro e w1 ⟨rfl, hb1⟩)
 obtain ⟨hc1, hf1⟩ := bcell hb1
 have hz1 : w.heap.size < w1.heap.size := by have hh := hb1.size; (try simp at hh); omega
 have HB1 := Aside0.mk hb1
 have BO := Aside0.mk (blk_below (blk_new w (.cells #[.bool false, .slice none 0 0, .slice none 0 0, .slice none 0 0] 68)) hb1)
 have hob0 : w1.cell? ⟨w.heap.size, 0, none⟩ = some (.bool false) := (blk_cell BO.out 0).trans rfl
 have hob1 : w1.cell? ⟨w.heap.size, 1, none⟩ = some (.slice none 0 0) := (blk_cell BO.out 1).trans rfl
 have hob2 : w1.cell? ⟨w.heap.size, 2, none⟩ = some (.slice none 0 0) := (blk_cell BO.out 2).trans rfl
 have hob3 : w1.cell? ⟨w.heap.size, 3, none⟩ = some (.slice none 0 0) := (blk_cell BO.out 3).trans rfl
 have hfo := blk_frozen BO.out
 clear hb1 hc1 hf1
 go_wp2
 have B1 := blk_put BO.out 0 (.bool false) rfl
 have B2 := blk_put B1 1 (.slice none 0 0) rfl
 have B3 := blk_put B2 2 (.slice none 0 0) rfl
 have B4 := blk_put B3 3 (.slice none 0 0) rfl
 refine bodyPost_ret (results_ct rfl _ _ w.heap.size 68 #[.bool false, .slice none 0 0, .slice none 0 0, .slice none 0 0] (0, 0) _ rfl B4 Try.underlying68 rfl (by kernel_rfl)) rfl ?_
 exact node_post (n := z68) (Kd.R_nil _ _ _ _ _) (Kd.R_nil _ _ _ _ _) (Kd.R_nil _ _ _ _ _) (four_below w.heap.size (base_below HB1.out) (Nat.le_refl _))
theorem readNode_empty (k : Nat) (t body : ByteArray) (w : World) (hu : impl_Unsealed.f k t = some (body, true)) (h0 : body.size = 0) :
  Calls Try.prog 30 #[.string t] w (NodePost w z68 false) := by
 have HU := Aside0.mk hu
 have HE : body.toList = [] := by
  have hl : body.toList.length = body.size := by rw [Lib.toList_data, Array.length_toList]; rfl
  rw [h0] at hl
  exact List.eq_nil_of_length_eq_zero hl
 have HE1 : body.toList.isEmpty = true := by rw [HE]; rfl
 have HE2 : (!body.toList.isEmpty) = false := by rw [HE1]; rfl
 clear hu
 go_enter Try.func30, Try.ntmps30
 go_wp2_with fail
 ((with_reducible refine (impl_Unsealed.calls k t body true _ HU.out).mono ?_); rintro e w1 ⟨rfl, hb1⟩)
 obtain ⟨hc1, hf1⟩ := bcell hb1
 have hz1 : w.heap.size < w1.heap.size := by have hh := hb1.size; (try simp at hh); omega
 have HB1 := Aside0.mk hb1
 have BO := Aside0.mk (blk_below (blk_new w (.cells #[.bool false, .slice none 0 0, .slice none 0 0, .slice none 0 0] 68)) hb1)
 have hob0 : w1.cell? ⟨w.heap.size, 0, none⟩ = some (.bool false) := (blk_cell BO.out 0).trans rfl
 have hob1 : w1.cell? ⟨w.heap.size, 1, none⟩ = some (.slice none 0 0) := (blk_cell BO.out 1).trans rfl
 have hob2 : w1.cell? ⟨w.heap.size, 2, none⟩ = some (.slice none 0 0) := (blk_cell BO.out 2).trans rfl
 have hob3 : w1.cell? ⟨w.heap.size, 3, none⟩ = some (.slice none 0 0) := (blk_cell BO.out 3).trans rfl
 have hfo := blk_frozen BO.out
 clear hb1 hc1 hf1
 go_wp2
 have B1 := blk_put BO.out 0 (.bool false) rfl
 have B2 := blk_put B1 1 (.slice none 0 0) rfl
 have B3 := blk_put B2 2 (.slice none 0 0) rfl
 have B4 := blk_put B3 3 (.slice none 0 0) rfl
 refine bodyPost_ret (results_ct rfl _ _ w.heap.size 68 #[.bool false, .slice none 0 0, .slice none 0 0, .slice none 0 0] (0, 0) _ rfl B4 Try.underlying68 rfl (by kernel_rfl)) rfl ?_
 exact node_post (n := z68) (Kd.R_nil _ _ _ _ _) (Kd.R_nil _ _ _ _ _) (Kd.R_nil _ _ _ _ _) (four_below w.heap.size (base_below HB1.out) (Nat.le_refl _))
end Go.Proofs.Ytapholbdjccapaa.PFnExactTreeOk
