import Derived.Test.YtapholbdjccapaaTE9
set_option maxHeartbeats 64000000
set_option maxRecDepth 100000
set_option linter.unusedVariables false
set_option linter.unusedSimpArgs false
namespace Go.Proofs.Ytapholbdjccapaa.PFnExactTreeOk
open Go.RowKit Go.Proofs.YtapholbdjccapaaW.PrintWords Go.Proofs.YtapholbdjccapaaW.PrintLast Go.Proofs.YtapholbdjccapaaW.PrintMore
attribute [local go_sem] max2_int min2_int max_two min_two max_three min_three max_four min_four
theorem in_go (l : List Int) (x : Int) (hbig : l.length ≤ 9223372036854775807) : ∀ (n i : Nat), i ≤ l.length → l.length - i ≤ n → (∀ j (hj : j < l.length), j < i → l[j] ≠ x) → spec_l06In.l0 (n + 1) l x (i : Int) = some (l.contains x) := by
 have hmiss : ∀ i : Nat, i = l.length → (∀ j (hj : j < l.length), j < i → l[j] ≠ x) → l.contains x = false := by
  intro i hi hb
  cases h : l.contains x
  ·rfl
  ·obtain ⟨j, hj, e⟩ := List.getElem_of_mem (List.contains_iff_mem.1 h)
   exact absurd e (hb j hj (by omega))
 intro n
 induction n with
 | zero =>
  intro i h1 h2 hb
  simp only [spec_l06In.l0]
  rw [if_neg (by omega), hmiss i (by omega) hb]
 | succ n ih =>
  intro i h1 h2 hb
  rw [spec_l06In.l0]
  by_cases hi : i < l.length
  ·rw [if_pos (by omega), if_pos (by omega), rd_nat _ _ hi]
   by_cases hx : l[i] = x
   ·rw [if_pos hx]
    have : l.contains x = true := List.contains_iff_mem.2 (by rw [← hx]; exact List.getElem_mem hi)
    rw [this]
   ·rw [if_neg hx, show wrap64 ((i : Int) + 1) = ((i + 1 : Nat) : Int) by unfold wrap64; omega]
    exact ih (i + 1) (by omega) (by omega) (fun j hj hji => by
     by_cases e : j = i
     ·subst e; exact hx
     ·exact hb j hj (by omega))
  ·rw [if_neg (by omega), hmiss i (by omega) hb]
theorem in_ev (l : List Int) (x : Int) (b : Bool) (h : l.contains x = b) (hbig : l.length ≤ 9223372036854775807) : ∃ k, spec_l06In.f k l x = some b :=
 ⟨l.length + 1, by rw [← h]; exact in_go l x hbig l.length 0 (Nat.zero_le _) (by omega) (fun j hj h => absurd h (Nat.not_lt_zero _))⟩
def outB (low high : ByteArray) (has : Bool) (k : ByteArray) : Bool := Op.bytesLess k.toList low.toList || (has && !(Op.bytesLess k.toList high.toList))
def leastB (low k : ByteArray) : ByteArray := if Op.bytesLess low.toList k.toList = true then k else low
def moreB (keys : List ByteArray) (high : ByteArray) (has : Bool) (i : Nat) : Bool := decide (i + 1 < keys.length) && (!has || Op.bytesLess (keys.getD (i + 1) ByteArray.empty).toList high.toList)
def nextB (keys : List ByteArray) (high : ByteArray) (has : Bool) (i : Nat) : ByteArray := if moreB keys high has i = true then keys.getD (i + 1) ByteArray.empty else high
def swKids (rec_ : TSt → Int → ByteArray → ByteArray → Bool → TSt) (keys : List ByteArray) (kids : List Int) (low high : ByteArray) (has : Bool) : Nat → Nat → TSt → TSt
 | _, 0, st => st
 | i, n + 1, st => swKids rec_ keys kids low high has (i + 1) n (rec_ st (kids.getD i 0) (leastB low (keys.getD i ByteArray.empty)) (nextB keys high has i) (has || moreB keys high has i))
def sw (rn : Int → S68 × Bool) : Nat → TSt → Int → Int → ByteArray → ByteArray → Bool → TSt
 | 0, st, _, _, _, _, _ => ⟨st.pg, st.pr, st.dp, st.order, true⟩
 | f + 1, st, page, deep, low, high, has =>
  if (rn page).2 = false ∨ deep ≥ 8 ∨ st.pg.contains page = true ∨ st.bad = true then ⟨st.pg, st.pr, st.dp, st.order, true⟩
  else if (rn page).1.f0 = true then ⟨st.pg ++ [page], st.pr ++ pairsTo (rn page).1.f1 (rn page).1.f2 (rn page).1.f1.length, st.dp ++ [deep], st.order || (rn page).1.f1.any (outB low high has), st.bad⟩
  else swKids (fun s k lo hi ha => sw rn f s k (deep + 1) lo hi ha) (rn page).1.f1 (rn page).1.f3 low high has 0 (rn page).1.f1.length ⟨st.pg ++ [page], st.pr, st.dp, st.order, st.bad⟩
def RnS (pages : List ByteArray) (late : List S189) (rn : Int → S68 × Bool) : Prop :=
 ∀ page : Int, ∃ s, (∃ k, spec_ReadPage.f k pages late page = some s) ∧ (∀ w, Calls Try.prog 35 #[.string s] w (NodePost w (rn page).1 (rn page).2)) ∧ (((rn page).2 = true ∧ nodeOkB (rn page).1.f0 (rn page).1.f1 (rn page).1.f2 (rn page).1.f3 = true) ∨ ((rn page).2 = false ∧ (rn page).1 = z68))
def cellsS (vg vp vd : Value) (b1 b2 : Bool) : Array Value := #[vp, vg, vd, .bool b2, .bool b1]
theorem layS : Lay cellsS 1 0 2 4 3 := ⟨fun _ _ _ _ _ _ => rfl, fun _ _ _ _ _ _ => rfl, fun _ _ _ _ _ _ => rfl, fun _ _ _ _ _ _ => rfl, fun _ _ _ _ _ _ => rfl⟩
theorem walk_bad (AP : Option Addr) (cP : Nat) (pages : List ByteArray) (AL : Option Addr) (cL : Nat) (late : List S189) (w0 : World) (hP : Kd.C Kd.string w0 AP pages.length pages) (hcP : pages.length ≤ cP) (hL : Kd.C k189 w0 AL late.length late) (hcL : late.length ≤ cL) (rn : Int → S68 × Bool) (hrn : RnS pages late rn) (g : Nat) (st : TSt) (page deep : Int) (low high : ByteArray) (has : Bool) (w : World) (Ag : Option Addr) (cg : Nat) (Ap : Option Addr) (cp : Nat) (Ad : Option Addr) (cd : Nat) (hT : TInv cellsS 138 w0 w g (.slice Ag st.pg.length cg) (.slice Ap st.pr.length cp) (.slice Ad st.dp.length cd) st.order st.bad st.pg st.pr st.dp) (hbad : (rn page).2 = false ∨ deep ≥ 8 ∨ st.pg.contains page = true ∨ st.bad = true) :
  Calls Try.prog 140 #[.agg #[.slice AP pages.length cP, .slice AL late.length cL], .int .i64 page, .int .i64 deep, .string low, .string high, .bool has, .pointer (some ⟨g, 0, none⟩)] w (DownPost cellsS 138 w0 w g (.slice Ag st.pg.length cg) (.slice Ap st.pr.length cp) (.slice Ad st.dp.length cd) ⟨st.pg, st.pr, st.dp, st.order, true⟩) := by
 obtain ⟨s, ⟨k, hs⟩, hnode, hcase⟩ := hrn page
 have HS := Aside0.mk hs
 have HN := Aside0.mk hnode
 have HP := Aside0.mk hP
 have HL := Aside0.mk hL
 have HCASE := Aside0.mk hcase
 have HRN := Aside0.mk hrn
 have T0 := Aside0.mk hT
 obtain ⟨pg, pr, dp, order, bad⟩ := st
 obtain ⟨n, hn⟩ : ∃ n, (rn page).1 = n := ⟨_, rfl⟩
 obtain ⟨ok, hok⟩ : ∃ ok, (rn page).2 = ok := ⟨_, rfl⟩
 have HNN := Aside0.mk (And.intro hn hok)
 rw [hn, hok] at HN HCASE
 obtain ⟨leaf, keys, vals, kids⟩ := n
 simp only at T0
 clear hs hnode hP hL hcase hrn hT hn hok
 rw [HNN.out.2] at hbad
 simp only at hbad
 go_enter Try.func140, Try.ntmps140
 go_upto_region 1 with (fail)
 have TA := Aside0.mk (T0.out.alloc (.cells #[.slice AP pages.length cP, .slice AL late.length cL] 41))
 have BA := Aside0.mk (blk_new w (.cells #[.slice AP pages.length cP, .slice AL late.length cL] 41))
 have HFA := Aside0.mk ((TFr.refl w g (.slice Ag pg.length cg) (.slice Ap pr.length cp) (.slice Ad dp.length cd)).below (below_alloc (Below.refl _ _) (.cells #[.slice AP pages.length cP, .slice AL late.length cL] 41)))
 have hsA := Aside0.mk (show w.heap.size ≤ w.heap.size from Nat.le_refl _)
 obtain ⟨gD, hgd⟩ : ∃ z, w.heap.size = z := ⟨_, rfl⟩
 generalize hwa : w.alloc (.cells #[.slice AP pages.length cP, .slice AL late.length cL] 41) = wA at TA BA HFA ⊢
 clear hwa T0
 rw [hgd] at BA ⊢
 have HGD := Aside0.mk hgd
 clear hgd hsA
 have hgD := blk_lt BA.out
 have hx0 : wA.cell? ⟨gD, 0, none⟩ = some (.slice AP pages.length cP) := (blk_cell BA.out 0).trans rfl
 have hx1 : wA.cell? ⟨gD, 1, none⟩ = some (.slice AL late.length cL) := (blk_cell BA.out 1).trans rfl
 go_wp2_with fail
 ((with_reducible refine (spec_ReadPage.calls k AP cP pages AL cL late page s _ (Kd.C_below HP.out TA.out.bel) hcP (Kd.C_below HL.out TA.out.bel) hcL HS.out).mono ?_); rintro e w1 ⟨rfl, hb1⟩)
 have T1 := Aside0.mk (TA.out.below hb1)
 have HB1 := Aside0.mk hb1
 clear hb1
 go_wp2_with fail
 ((with_reducible refine (HN.out _).mono ?_); rintro e w2 ⟨A1, c1, A2, c2, A3, c3, rfl, r1, r2, r3, hb2⟩)
 have T3 := Aside0.mk ((T1.out.below hb2).alloc (.cells #[.bool leaf, .slice A1 keys.length c1, .slice A2 vals.length c2, .slice A3 kids.length c3] 68))
 have HB2 := Aside0.mk (show Below wA.heap.size wA w2 from below_step HB1.out hb2)
 have BN := Aside0.mk (blk_new w2 (.cells #[.bool leaf, .slice A1 keys.length c1, .slice A2 vals.length c2, .slice A3 kids.length c3] 68))
 have BD := Aside0.mk (blk_below BA.out (below_alloc HB2.out (.cells #[.bool leaf, .slice A1 keys.length c1, .slice A2 vals.length c2, .slice A3 kids.length c3] 68)))
 have R1 := Aside0.mk (Kd.R_lower (base' := w0.heap.size) (Kd.R_below r1 (below_alloc (Below.refl _ _) (.cells #[.bool leaf, .slice A1 keys.length c1, .slice A2 vals.length c2, .slice A3 kids.length c3] 68))) T1.out.bel.size)
 have R2 := Aside0.mk (Kd.R_lower (base' := w0.heap.size) (Kd.R_below r2 (below_alloc (Below.refl _ _) (.cells #[.bool leaf, .slice A1 keys.length c1, .slice A2 vals.length c2, .slice A3 kids.length c3] 68))) T1.out.bel.size)
 have R3 := Aside0.mk (Kd.R_lower (base' := w0.heap.size) (Kd.R_below r3 (below_alloc (Below.refl _ _) (.cells #[.bool leaf, .slice A1 keys.length c1, .slice A2 vals.length c2, .slice A3 kids.length c3] 68))) T1.out.bel.size)
 have HF3 := Aside0.mk (HFA.out.below (below_alloc HB2.out (.cells #[.bool leaf, .slice A1 keys.length c1, .slice A2 vals.length c2, .slice A3 kids.length c3] 68)))
 have HNE := Aside0.mk (show NeRow (.slice A1 keys.length c1) (.slice Ag pg.length cg) ∧ NeRow (.slice A3 kids.length c3) (.slice Ag pg.length cg) ∧ NeRow (.slice A3 kids.length c3) (.slice Ad dp.length cd) from ⟨ne_fresh r1 T1.out.rg, ne_fresh r3 T1.out.rg, ne_fresh r3 T1.out.rd⟩)
 clear r1 r2 r3 hb2 T1 TA BA HFA hx0 hx1
 go_upto_region 2 with (fail)
 have hgN := Aside0.mk (blk_lt BN.out)
 generalize hw3 : w2.alloc (.cells #[.bool leaf, .slice A1 keys.length c1, .slice A2 vals.length c2, .slice A3 kids.length c3] 68) = w3 at T3 BN BD R1 R2 R3 HF3 hgN ⊢
 clear hw3 HB1 HB2
 obtain ⟨gN, hgn⟩ : ∃ gN, w2.heap.size = gN := ⟨_, rfl⟩
 rw [hgn] at BN hgN ⊢
 clear hgn hgD
 have hgl := blk_lt T3.out.bT
 have hf2 := blk_frozen T3.out.bT
 have hd0 : w3.cell? ⟨g, 1, none⟩ = some (.slice Ag pg.length cg) := (blk_cell T3.out.bT 1).trans rfl
 have hd3 : w3.cell? ⟨g, 3, none⟩ = some (.bool bad) := (blk_cell T3.out.bT 3).trans rfl
 cases ok with
 | false =>
  clear hbad
  go_wp2
  refine bodyPost_ret (results_list (rs := []) (vs := []) rfl (by simp) Vals.nil) rfl ?_
  exact ⟨rfl, Ag, cg, Ap, cp, Ad, cd, set2 layS (by decide) T3.out, HF3.out.set _ _⟩
 | true =>
  by_cases hd : deep ≥ 8
  ·have hd1 : decide (8 ≤ deep) = true := decide_eq_true hd
   clear hbad hd
   go_wp2
   refine bodyPost_ret (results_list (rs := []) (vs := []) rfl (by simp) Vals.nil) rfl ?_
   exact ⟨rfl, Ag, cg, Ap, cp, Ad, cd, set2 layS (by decide) T3.out, HF3.out.set _ _⟩
  ·have hd1 : decide (8 ≤ deep) = false := decide_eq_false (by omega)
   have hbad2 : pg.contains page = true ∨ (pg.contains page = false ∧ bad = true) := by
    rcases hbad with e | e | e | e
    ·cases e
    ·exact absurd e hd
    ·exact .inl e
    ·cases h : pg.contains page
     ·exact .inr ⟨rfl, e⟩
     ·exact .inl rfl
   clear hbad hd
   rcases hbad2 with hcon | ⟨hcon, rfl⟩
   ·obtain ⟨kc, hkc⟩ := in_ev pg page true hcon (R_seen T3.out.rg).2.2.1
    have HKC := Aside0.mk hkc
    clear hcon hkc
    go_wp2_with fail
    ((with_reducible refine (spec_l06In.calls kc Ag cg pg page true _ (R_seen T3.out.rg).2 (R_seen T3.out.rg).1 HKC.out).mono ?_); rintro e w4 ⟨rfl, nd4, rfl⟩)
    go_wp2
    refine bodyPost_ret (results_list (rs := []) (vs := []) rfl (by simp) Vals.nil) rfl ?_
    exact ⟨rfl, Ag, cg, Ap, cp, Ad, cd, set2 layS (by decide) (T3.out.below (Drawn0.below ⟨nd4, rfl⟩)), (HF3.out.below (Drawn0.below ⟨nd4, rfl⟩)).set _ _⟩
   ·obtain ⟨kc, hkc⟩ := in_ev pg page false hcon (R_seen T3.out.rg).2.2.1
    have HKC := Aside0.mk hkc
    clear hcon hkc
    go_wp2_with fail
    ((with_reducible refine (spec_l06In.calls kc Ag cg pg page false _ (R_seen T3.out.rg).2 (R_seen T3.out.rg).1 HKC.out).mono ?_); rintro e w4 ⟨rfl, nd4, rfl⟩)
    go_wp2
    refine bodyPost_ret (results_list (rs := []) (vs := []) rfl (by simp) Vals.nil) rfl ?_
    exact ⟨rfl, Ag, cg, Ap, cp, Ad, cd, set2 layS (by decide) (T3.out.below (Drawn0.below ⟨nd4, rfl⟩)), (HF3.out.below (Drawn0.below ⟨nd4, rfl⟩)).set _ _⟩
def spec_l07Walk.T12 : Bool × List (List Nat × List Nat) := (true, [([], []), ([], []), ([1], [1]), ([2], [2]), ([3], [3]), ([], []), ([], []), ([6], [6]), ([], []), ([7, 8], [7, 8]), ([9], [9]), ([5, 10], [5, 10]), ([11], [11]), ([4, 12], [4, 12]), ([0, 0, 1, 2, 3, 4, 5, 6, 7, 8, 9, 10, 11, 12, 13], [0]), ([14, 0, 1, 2, 3, 4, 5, 6, 7, 8, 9, 10, 11, 12, 13], [14]), ([15, 13, 13, 0, 1, 2, 3, 4, 5, 6, 7, 8, 9, 10, 11, 12, 13], [13, 15])])
def spec_l07Walk.B12 : List Nat := [0, 0, 2, 6, 14, 0, 0, 64, 0, 448, 960, 2016, 4064, 8190, 16383, 32767, 65535]
theorem spec_l07Walk.ok12_0 : regB (opsOf Try.f140 12) spec_l07Walk.T12 spec_l07Walk.B12 [16] [.p 0, .p 1, .p 2, .p 3, .t 4, .p 5, .p 6, .t 7, .p 8, .p 9, .t 10, .p 11, .e 12, .e 13, .p 14, .p 15, .l 16] = true := by kernel_rfl
theorem any_take_succ {α : Type} (l : List α) (p : α → Bool) (k : Nat) (h : k < l.length) : (l.take (k + 1)).any p = ((l.take k).any p || p l[k]) := by
 rw [List.take_add_one, List.getElem?_eq_getElem h, Option.toList_some, List.any_append, List.any_cons, List.any_nil, Bool.or_false]
theorem walk_leaf (AP : Option Addr) (cP : Nat) (pages : List ByteArray) (AL : Option Addr) (cL : Nat) (late : List S189) (w0 : World) (hP : Kd.C Kd.string w0 AP pages.length pages) (hcP : pages.length ≤ cP) (hL : Kd.C k189 w0 AL late.length late) (hcL : late.length ≤ cL) (rn : Int → S68 × Bool) (hrn : RnS pages late rn) (g : Nat) (st : TSt) (page deep : Int) (low high : ByteArray) (has : Bool) (w : World) (Ag : Option Addr) (cg : Nat) (Ap : Option Addr) (cp : Nat) (Ad : Option Addr) (cd : Nat) (hT : TInv cellsS 138 w0 w g (.slice Ag st.pg.length cg) (.slice Ap st.pr.length cp) (.slice Ad st.dp.length cd) st.order st.bad st.pg st.pr st.dp) (hbad : st.bad = false) (hok : (rn page).2 = true) (hd : deep < 8) (hcon : st.pg.contains page = false) (hleaf : (rn page).1.f0 = true) (hlg : st.pg.length ≤ 1000000) (hlp : st.pr.length ≤ 1000000) (hld : st.dp.length ≤ 1000000) :
  Calls Try.prog 140 #[.agg #[.slice AP pages.length cP, .slice AL late.length cL], .int .i64 page, .int .i64 deep, .string low, .string high, .bool has, .pointer (some ⟨g, 0, none⟩)] w (DownPost cellsS 138 w0 w g (.slice Ag st.pg.length cg) (.slice Ap st.pr.length cp) (.slice Ad st.dp.length cd) ⟨st.pg ++ [page], st.pr ++ pairsTo (rn page).1.f1 (rn page).1.f2 (rn page).1.f1.length, st.dp ++ [deep], st.order || (rn page).1.f1.any (outB low high has), st.bad⟩) := by
 obtain ⟨s, ⟨k, hs⟩, hnode, hcase⟩ := hrn page
 have HS := Aside0.mk hs
 have HN := Aside0.mk hnode
 have HP := Aside0.mk hP
 have HL := Aside0.mk hL
 have HCASE := Aside0.mk hcase
 have HRN := Aside0.mk hrn
 have T0 := Aside0.mk hT
 obtain ⟨pg, pr, dp, order, bad⟩ := st
 obtain ⟨n, hn⟩ : ∃ n, (rn page).1 = n := ⟨_, rfl⟩
 obtain ⟨ok, hok⟩ : ∃ ok, (rn page).2 = ok := ⟨_, rfl⟩
 have HNN := Aside0.mk (And.intro hn hok)
 rw [hn, hok] at HN HCASE
 obtain ⟨leaf, keys, vals, kids⟩ := n
 simp only at T0
 clear hs hnode hP hL hcase hrn hT hn hok
 rw [HNN.out.1] at hleaf ⊢
 simp only at hbad hcon hlg hlp hld hleaf ⊢
 subst hleaf
 subst hbad
 rw [HNN.out.2] at hok
 subst hok
 have hd1 : decide (8 ≤ deep) = false := decide_eq_false (by omega)
 have hnk : nodeOkB true keys vals kids = true := by
  rcases HCASE.out with h | h
  ·exact h.2
  ·cases h.1
 obtain ⟨hshape, hcond⟩ := (nodeOk_iff _ _ _ _).1 hnk
 obtain ⟨kc, hkc⟩ := in_ev pg page false hcon (R_seen T0.out.rg).2.2.1
 have HKC := Aside0.mk hkc
 have HLG := Aside0.mk hlg
 have HLP := Aside0.mk hlp
 have HLD := Aside0.mk hld
 obtain ⟨ks1, hks⟩ : ∃ z, z = pg ++ [page] := ⟨_, rfl⟩
 have HKS1 := Aside0.mk hks
 clear hd hcon hkc hnk hlg hlp hld hks hcond
 obtain ⟨ks2, hks⟩ : ∃ z, z = dp ++ [deep] := ⟨_, rfl⟩
 have HKS2 := Aside0.mk hks
 have HVL := Aside0.mk (hshape.2.1 rfl).1
 have hkl := hshape.1.2
 clear hks hshape
 go_enter Try.func140, Try.ntmps140
 go_upto_region 1 with (fail)
 have TA := Aside0.mk (T0.out.alloc (.cells #[.slice AP pages.length cP, .slice AL late.length cL] 41))
 have BA := Aside0.mk (blk_new w (.cells #[.slice AP pages.length cP, .slice AL late.length cL] 41))
 have HFA := Aside0.mk ((TFr.refl w g (.slice Ag pg.length cg) (.slice Ap pr.length cp) (.slice Ad dp.length cd)).below (below_alloc (Below.refl _ _) (.cells #[.slice AP pages.length cP, .slice AL late.length cL] 41)))
 have hsA := Aside0.mk (show w.heap.size ≤ w.heap.size from Nat.le_refl _)
 obtain ⟨gD, hgd⟩ : ∃ z, w.heap.size = z := ⟨_, rfl⟩
 generalize hwa : w.alloc (.cells #[.slice AP pages.length cP, .slice AL late.length cL] 41) = wA at TA BA HFA ⊢
 clear hwa T0
 rw [hgd] at BA ⊢
 have HGD := Aside0.mk hgd
 clear hgd hsA
 have hgD := blk_lt BA.out
 have hx0 : wA.cell? ⟨gD, 0, none⟩ = some (.slice AP pages.length cP) := (blk_cell BA.out 0).trans rfl
 have hx1 : wA.cell? ⟨gD, 1, none⟩ = some (.slice AL late.length cL) := (blk_cell BA.out 1).trans rfl
 go_wp2_with fail
 ((with_reducible refine (spec_ReadPage.calls k AP cP pages AL cL late page s _ (Kd.C_below HP.out TA.out.bel) hcP (Kd.C_below HL.out TA.out.bel) hcL HS.out).mono ?_); rintro e w1 ⟨rfl, hb1⟩)
 have T1 := Aside0.mk (TA.out.below hb1)
 have HB1 := Aside0.mk hb1
 clear hb1
 go_wp2_with fail
 ((with_reducible refine (HN.out _).mono ?_); rintro e w2 ⟨A1, c1, A2, c2, A3, c3, rfl, r1, r2, r3, hb2⟩)
 have T3 := Aside0.mk ((T1.out.below hb2).alloc (.cells #[.bool true, .slice A1 keys.length c1, .slice A2 vals.length c2, .slice A3 kids.length c3] 68))
 have HB2 := Aside0.mk (show Below wA.heap.size wA w2 from below_step HB1.out hb2)
 have BN := Aside0.mk (blk_new w2 (.cells #[.bool true, .slice A1 keys.length c1, .slice A2 vals.length c2, .slice A3 kids.length c3] 68))
 have BD := Aside0.mk (blk_below BA.out (below_alloc HB2.out (.cells #[.bool true, .slice A1 keys.length c1, .slice A2 vals.length c2, .slice A3 kids.length c3] 68)))
 have R1 := Aside0.mk (Kd.R_lower (base' := w0.heap.size) (Kd.R_below r1 (below_alloc (Below.refl _ _) (.cells #[.bool true, .slice A1 keys.length c1, .slice A2 vals.length c2, .slice A3 kids.length c3] 68))) T1.out.bel.size)
 have R2 := Aside0.mk (Kd.R_lower (base' := w0.heap.size) (Kd.R_below r2 (below_alloc (Below.refl _ _) (.cells #[.bool true, .slice A1 keys.length c1, .slice A2 vals.length c2, .slice A3 kids.length c3] 68))) T1.out.bel.size)
 have R3 := Aside0.mk (Kd.R_lower (base' := w0.heap.size) (Kd.R_below r3 (below_alloc (Below.refl _ _) (.cells #[.bool true, .slice A1 keys.length c1, .slice A2 vals.length c2, .slice A3 kids.length c3] 68))) T1.out.bel.size)
 have HF3 := Aside0.mk (HFA.out.below (below_alloc HB2.out (.cells #[.bool true, .slice A1 keys.length c1, .slice A2 vals.length c2, .slice A3 kids.length c3] 68)))
 have HNE := Aside0.mk (show NeRow (.slice A1 keys.length c1) (.slice Ag pg.length cg) ∧ NeRow (.slice A3 kids.length c3) (.slice Ag pg.length cg) ∧ NeRow (.slice A3 kids.length c3) (.slice Ad dp.length cd) from ⟨ne_fresh r1 T1.out.rg, ne_fresh r3 T1.out.rg, ne_fresh r3 T1.out.rd⟩)
 clear r1 r2 r3 hb2 T1 TA BA HFA hx0 hx1
 go_upto_region 2 with (fail)
 have hgN := Aside0.mk (blk_lt BN.out)
 generalize hw3 : w2.alloc (.cells #[.bool true, .slice A1 keys.length c1, .slice A2 vals.length c2, .slice A3 kids.length c3] 68) = w3 at T3 BN BD R1 R2 R3 HF3 hgN ⊢
 clear hw3 HB1 HB2
 obtain ⟨gN, hgn⟩ : ∃ gN, w2.heap.size = gN := ⟨_, rfl⟩
 rw [hgn] at BN hgN ⊢
 clear hgn hgD
 have hgl := blk_lt T3.out.bT
 have hf2 := blk_frozen T3.out.bT
 have hd0 : w3.cell? ⟨g, 1, none⟩ = some (.slice Ag pg.length cg) := (blk_cell T3.out.bT 1).trans rfl
 have hd3 : w3.cell? ⟨g, 3, none⟩ = some (.bool false) := (blk_cell T3.out.bT 3).trans rfl
 go_wp2_with fail
 ((with_reducible refine (spec_l06In.calls kc Ag cg pg page false _ (R_seen T3.out.rg).2 (R_seen T3.out.rg).1 HKC.out).mono ?_); rintro e w4 ⟨rfl, nd4, rfl⟩)
 have T4 := Aside0.mk (T3.out.below (Drawn0.below ⟨nd4, rfl⟩))
 have BN4 := Aside0.mk (blk_below BN.out (Drawn0.below ⟨nd4, rfl⟩))
 have BD4 := Aside0.mk (blk_below BD.out (Drawn0.below ⟨nd4, rfl⟩))
 have R14 := Aside0.mk (Kd.R_below R1.out (Drawn0.below ⟨nd4, rfl⟩))
 have R24 := Aside0.mk (Kd.R_below R2.out (Drawn0.below ⟨nd4, rfl⟩))
 have R34 := Aside0.mk (Kd.R_below R3.out (Drawn0.below ⟨nd4, rfl⟩))
 have HF4 := Aside0.mk (HF3.out.below (Drawn0.below ⟨nd4, rfl⟩))
 clear T3 BN BD R1 R2 R3 HF3
 generalize w3.drewN nd4 = w4 at T4 BN4 BD4 R14 R24 R34 HF4 ⊢
 have hgl4 := blk_lt T4.out.bT
 have hd14 : w4.cell? ⟨g, 1, none⟩ = some (.slice Ag pg.length cg) := (blk_cell T4.out.bT 1).trans rfl
 have hd34 : w4.cell? ⟨g, 3, none⟩ = some (.bool false) := (blk_cell T4.out.bT 3).trans rfl
 clear hf2 hd0 hd3 hgl
 go_upto_region 5 with (((with_reducible refine gate_builtin (b := .append) (xs := #[.tmp 55, .tmp 57]) rfl ?_); at_builtin; refine Kd.R_append (Kd.int .i64) (w0 := w0) w0.heap.size rfl (.tmp 55) (.tmp 57) 30 3 (.int .i64 0) 8 rfl Try.underlying30 info3d rfl (by decide) (by omega) (.slice Ag pg.length cg) pg page [.int .i64 page] (fun _ => True) (fun _ => False) rfl rfl ?aP (fun _ hk => hk.elim) ?aF ?aO ?aB ?aS ?aL ?_; (case aP => exact rfl); (case aF => exact (fun _ _ => trivial)); (case aO => exact T4.out.rg); (case aB => exact T4.out.bel); (case aS => exact T4.out.bel.size); (case aL => have := HLG.out; omega); intro va wa ho hb hgr hat; rw [← HKS1.out] at ho; obtain ⟨Ao1, co1, eo⟩ := Kd.R_slice ho; subst eo; have ba := Aside0.mk (blk_grown T4.out.bT hgr (Kd.R_ne T4.out.rg T4.out.bT (by decide))); have hsa : wa.cell? ⟨g, 1, none⟩ = some (.slice Ag pg.length cg) := (blk_cell ba.out 1).trans rfl; have hfa := blk_frozen ba.out; have hla := blk_lt ba.out; have TT := Aside0.mk (T4.out.pushPg layS (by decide) ho hb hgr hat); clear ho hb hgr hat))
 clear hsa hfa hla ba hd14 hd34 hgl4
 generalize hwx : wa.setCell ⟨g, 1, none⟩ _ = w5 at TT ⊢
 clear hwx
 obtain ⟨TT1, TT2⟩ := TT.out
 have T5 := Aside0.mk TT1
 have HF5 := Aside0.mk (HF4.out.trans TT2)
 have BN5 := Aside0.mk (blk_fr TT2 T4.out BN4.out (by decide))
 have BD5 := Aside0.mk (blk_fr TT2 T4.out BD4.out (by decide))
 have R15 := Aside0.mk (R9_fr TT2 T4.out (by decide) R14.out)
 have R25 := Aside0.mk (R9_fr TT2 T4.out (by decide) R24.out)
 have R35 := Aside0.mk (R3_fr TT2 T4.out (by decide) R34.out HNE.out.2.1 HNE.out.2.2)
 clear TT TT1 TT2 T4 BN4 BD4 R14 R24 R34 HF4
 go_wp2_with fail
 go_loopg [16] keys.length (fun gg s16 wr => ∃ (kk : Nat) (lk : Bool) (Apk : Option Addr) (cpk : Nat), kk ≤ keys.length ∧ keys.length - kk ≤ gg ∧ s16 = .int .i64 kk ∧ Aside0 (lk = (order || (keys.take kk).any (outB low high has))) ∧ Aside0 (TInv cellsS 138 w0 wr g (.slice Ao1 ks1.length co1) (.slice Apk (pr ++ pairsTo keys vals kk).length cpk) (.slice Ad dp.length cd) lk false ks1 (pr ++ pairsTo keys vals kk) dp) ∧ Aside0 (wr.heap[gN]? = some (.cells #[.bool true, .slice A1 keys.length c1, .slice A2 vals.length c2, .slice A3 kids.length c3] 68 (0, 0))) ∧
   Aside0 (Kd.R Kd.string 9 wr w0.heap.size (fun _ => True) (.slice A1 keys.length c1) keys) ∧ Aside0 (Kd.R Kd.string 9 wr w0.heap.size (fun _ => True) (.slice A2 vals.length c2) vals) ∧ Aside0 (TFr w wr g (.slice Ag pg.length cg) (.slice Ap pr.length cp) (.slice Ad dp.length cd) (.slice Ao1 ks1.length co1) (.slice Apk (pr ++ pairsTo keys vals kk).length cpk) (.slice Ad dp.length cd)))
 case atStart =>
  have e0 : pr ++ pairsTo keys vals 0 = pr := by simp [pairsTo]
  exact ⟨0, order, Ap, cp, Nat.zero_le _, by omega, rfl, ⟨by simp⟩, by rw [e0]; exact T5, BN5, R15, R25, by rw [e0]; exact HF5⟩
 case round =>
  clear T5 BN5 BD5 R15 R25 R35 HF5
  obtain ⟨kk, lk, Apk, cpk, hkk, hgg, rfl, HLKK, TK, BNK, R1K, R2K, HFK⟩ := hrel
  by_cases hlt : kk < keys.length
  ·have hltz : (kk : Int) < (keys.length : Int) := by omega
   have hlv : kk < vals.length := by have := HVL.out; omega
   have hlvz : (kk : Int) < (vals.length : Int) := by omega
   obtain ⟨ad1, rfl⟩ := some_ad R1K.out (by omega)
   obtain ⟨ad2, rfl⟩ := some_ad R2K.out (by omega)
   have hk1 := seen_str R1K.out hlt
   obtain ⟨key, hkey⟩ : ∃ key, keys[kk] = key := ⟨_, rfl⟩
   obtain ⟨val, hval⟩ : ∃ val, vals[kk] = val := ⟨_, rfl⟩
   rw [hkey] at hk1
   have HPAIR := Aside0.mk (show (⟨keys.getD kk ByteArray.empty, vals.getD kk ByteArray.empty⟩ : S140) = ⟨key, val⟩ by
    rw [List.getD_eq_getElem?_getD, List.getD_eq_getElem?_getD, List.getElem?_eq_getElem hlt, List.getElem?_eq_getElem hlv, Option.getD_some, Option.getD_some, hkey, hval])
   have HVAL := Aside0.mk hval
   obtain ⟨prk, hprk⟩ : ∃ z, z = pr ++ pairsTo keys vals kk := ⟨_, rfl⟩
   have HPRK := Aside0.mk hprk
   rw [← hprk] at TK HFK
   have HLQ := Aside0.mk (show prk.length ≤ 1000010 by rw [hprk, List.length_append, pairsTo_len]; have := HLP.out; omega)
   obtain ⟨prn, hprn⟩ : ∃ z, z = prk ++ [(⟨key, val⟩ : S140)] := ⟨_, rfl⟩
   have HKS3 := Aside0.mk hprn
   have HLS := Aside0.mk (show (order || (keys.take (kk + 1)).any (outB low high has)) = (lk || outB low high has key) by
    rw [any_take_succ _ _ _ hlt, hkey, HLKK.out, Bool.or_assoc])
   have hn1 : wr.cell? ⟨gN, 1, none⟩ = some (.slice (some ad1) keys.length c1) := (blk_cell BNK.out 1).trans rfl
   have hn0 : wr.cell? ⟨gN, 0, none⟩ = some (.bool true) := (blk_cell BNK.out 0).trans rfl
   have hs4 : wr.cell? ⟨g, 4, none⟩ = some (.bool lk) := (blk_cell TK.out.bT 4).trans rfl
   have hfs := blk_frozen TK.out.bT
   have hgs := blk_lt TK.out.bT
   clear hkey hval hprk hprn HLKK
   cases hb1 : Op.bytesLess key.toList low.toList with
   | true =>
    go_upto_region 12 with (fail)
    have TK2 := Aside0.mk (set1 (x := true) layS (by decide) TK.out)
    have HFK2 := Aside0.mk (HFK.out.set 4 (.bool true))
    have BNK2 := Aside0.mk (blk_far (p := ⟨g, 4, none⟩) BNK.out (blk_ne BNK.out TK.out.bT (by decide)) (.bool true))
    have R1K2 := Aside0.mk (Kd.R_set R1K.out TK.out.bT (by decide) 4 (.bool true))
    have R2K2 := Aside0.mk (Kd.R_set R2K.out TK.out.bT (by decide) 4 (.bool true))
    clear TK HFK BNK R1K R2K hk1 hn1 hn0 hs4 hfs hgs
    generalize hwx : wr.setCell ⟨g, 4, none⟩ _ = wv at TK2 HFK2 BNK2 R1K2 R2K2 ⊢
    clear hwx
    have TKd := Aside0.mk TK2.out.drew
    have BNd := Aside0.mk (blk_below BNK2.out (Below.refl _ _).drew)
    have R1d := Aside0.mk (Kd.R_below R1K2.out (Below.refl _ _).drew)
    have R2d := Aside0.mk (Kd.R_below R2K2.out (Below.refl _ _).drew)
    have HFd := Aside0.mk (HFK2.out.below (Below.refl _ _).drew)
    clear TK2 BNK2 R1K2 R2K2 HFK2
    refine seq_start spec_l07Walk.ok12_0 (S := fun w' => w'.cell? ⟨g, 0, none⟩ = some (.slice Apk prk.length cpk) ∧ w'.cell? ⟨gN, 2, none⟩ = some (.slice (some ad2) vals.length c2) ∧ w'.cell? (ad2.add kk) = some (.string val)) (by kernel_rfl) (fun _ _ _ _ h => h) ⟨(blk_cell TKd.out.bT 0).trans rfl, (blk_cell BNd.out 2).trans rfl, (seen_str R2d.out hlv).trans (by rw [HVAL.out])⟩ (fun hHeld => ?_)
    generalize wv.drew = wd at TKd BNd R1d R2d HFd hHeld ⊢
    iterate 4 (refine seq_p (v := ?_) (a' := ?_) rfl rfl (Or.inl ⟨by rfl, ?_⟩) ?_ ?_; rotate_left; (· intro w'; go_simp; with_reducible rfl); rotate_left; (· show Act.put _ (some _) _ = _; simp only [Act.put, List.setIfInBounds_toArray, List.set_cons_zero, List.set_cons_succ, i64_w, i32_w]; try rfl))
    (refine seq_t (v := ?_) (a' := ?_) rfl rfl (Or.inl ⟨by rfl, ?_⟩) ?_ ?_; rotate_left; (· rintro w' ⟨s0, s1, s2⟩; go_simp; with_reducible rfl); rotate_left; (· show Act.put _ (some _) _ = _; simp only [Act.put, List.setIfInBounds_toArray, List.set_cons_zero, List.set_cons_succ, i64_w, i32_w]; try rfl))
    iterate 2 (refine seq_p (v := ?_) (a' := ?_) rfl rfl (Or.inl ⟨by rfl, ?_⟩) ?_ ?_; rotate_left; (· intro w'; go_simp; with_reducible rfl); rotate_left; (· show Act.put _ (some _) _ = _; simp only [Act.put, List.setIfInBounds_toArray, List.set_cons_zero, List.set_cons_succ, i64_w, i32_w]; try rfl))
    (refine seq_t (v := ?_) (a' := ?_) rfl rfl (Or.inl ⟨by rfl, ?_⟩) ?_ ?_; rotate_left; (· rintro w' ⟨s0, s1, s2⟩; go_simp; with_reducible rfl); rotate_left; (· show Act.put _ (some _) _ = _; simp only [Act.put, List.setIfInBounds_toArray, List.set_cons_zero, List.set_cons_succ, i64_w, i32_w]; try rfl))
    iterate 2 (refine seq_p (v := ?_) (a' := ?_) rfl rfl (Or.inl ⟨by rfl, ?_⟩) ?_ ?_; rotate_left; (· intro w'; go_simp; with_reducible rfl); rotate_left; (· show Act.put _ (some _) _ = _; simp only [Act.put, List.setIfInBounds_toArray, List.set_cons_zero, List.set_cons_succ, i64_w, i32_w]; try rfl))
    (refine seq_t (v := ?_) (a' := ?_) rfl rfl (Or.inl ⟨by rfl, ?_⟩) ?_ ?_; rotate_left; (· rintro w' ⟨s0, s1, s2⟩; go_simp; with_reducible rfl); rotate_left; (· show Act.put _ (some _) _ = _; simp only [Act.put, List.setIfInBounds_toArray, List.set_cons_zero, List.set_cons_succ, i64_w, i32_w]; try rfl))
    (refine seq_p (v := ?_) (a' := ?_) rfl rfl (Or.inl ⟨by rfl, ?_⟩) ?_ ?_; rotate_left; (· intro w'; go_simp; with_reducible rfl); rotate_left; (· show Act.put _ (some _) _ = _; simp only [Act.put, List.setIfInBounds_toArray, List.set_cons_zero, List.set_cons_succ, i64_w, i32_w]; try rfl))
    refine seq_e rfl rfl (fun K hK => ?_)
    refine value_ (w1 := ?_) (v := ?_) (by rfl) rfl ?_ ?_
    rotate_left 2
    ·go_simp
     constructor
     ·rfl
     ·rfl
    refine hK.out _ _ ⟨(blk_cell (TKd.out.below (below_alloc (Below.refl _ _) _)).bT 0).trans rfl, (blk_cell (blk_alloc BNd.out _) 2).trans rfl, (seen_str (Kd.R_below R2d.out (below_alloc (Below.refl _ _) _)) hlv).trans (by rw [HVAL.out])⟩ (fun hHeld => ?_)
    clear hK K
    refine seq_norm (a' := ?_) ?_ ?_; rotate_left; (· show Act.put _ (some 101) _ = _; simp only [Act.put, List.setIfInBounds_toArray, List.set_cons_zero, List.set_cons_succ, i64_w, i32_w]; try rfl)
    refine seq_e rfl rfl (fun K hK => ?_)
    refine Kd.R_append_step k140 (w0 := w0) w0.heap.size (by rfl) (.tmp 93) (.tmp 101) 80 140 (.agg #[.string ⟨#[]⟩, .string ⟨#[]⟩]) 32 rfl Try.underlying80 info140d rfl (by decide) (by omega) (.slice Apk prk.length cpk) prk (⟨key, val⟩ : S140) [.string key, .string val] (fun _ => True) (fun _ => False) rfl rfl ?aP (fun _ hk => hk.elim) ?aF ?aO ?aB ?aS ?aL ?_
    (case aP => exact k140_mkM _ _ _ _)
    (case aF => exact (fun _ _ => trivial))
    (case aO => exact TKd.out.rp)
    (case aB => exact TKd.out.bel)
    (case aS => exact TKd.out.bel.size)
    (case aL => have := HLQ.out; omega)
    intro va wa ho hb hgr hat
    have ba := Aside0.mk (blk_grown TKd.out.bT hgr (Kd.R_ne TKd.out.rp TKd.out.bT (by decide)))
    have bna := Aside0.mk (blk_grown BNd.out hgr (Kd.R_ne TKd.out.rp BNd.out (by decide)))
    have r2a := Aside0.mk (Kd.R_over' R2d.out (Kd.R_typed TKd.out.rp) (by decide) hgr)
    rw [← HKS3.out] at ho
    obtain ⟨Ao3, co3, eo⟩ := Kd.R_slice ho
    subst eo
    have TT := Aside0.mk (TKd.out.pushPr layS (by decide) ho hb hgr hat)
    clear ho hb hgr hat
    refine hK.out _ _ ⟨(blk_cell ba.out 0).trans rfl, (blk_cell bna.out 2).trans rfl, (seen_str r2a.out hlv).trans (by rw [HVAL.out])⟩ (fun hHeld => ?_)
    clear hK K
    refine seq_norm (a' := ?_) ?_ ?_; rotate_left; (· show Act.put _ (some 102) _ = _; simp only [Act.put, List.setIfInBounds_toArray, List.set_cons_zero, List.set_cons_succ, i64_w, i32_w]; try rfl)
    iterate 2 (refine seq_p (v := ?_) (a' := ?_) rfl rfl (Or.inl ⟨by rfl, ?_⟩) ?_ ?_; rotate_left; (· intro w'; go_simp; with_reducible rfl); rotate_left; (· show Act.put _ (some _) _ = _; simp only [Act.put, List.setIfInBounds_toArray, List.set_cons_zero, List.set_cons_succ, i64_w, i32_w]; try rfl))
    refine seq_l rfl rfl (fun K hK => ?_)
    have hs1 : wa.cell? ⟨g, 0, none⟩ = some (.slice Apk prk.length cpk) := (blk_cell ba.out 0).trans rfl
    have hf1 := blk_frozen ba.out 0
    refine skip_ (w1 := ?_) (by rfl) rfl ?_ ?_
    rotate_left
    ·go_simp
     rfl
    refine hK.out _ _ ?_
    clear hK K
    refine seq_done ?_
    clear ba bna r2a hs1 hf1 hHeld
    generalize hwx : wa.setCell ⟨g, 0, none⟩ _ = w7 at TT ⊢
    clear hwx
    obtain ⟨TT1, TT2⟩ := TT.out
    have T7 := Aside0.mk TT1
    have HF7 := Aside0.mk (HFd.out.trans TT2)
    have BN7 := Aside0.mk (blk_fr TT2 TKd.out BNd.out (by decide))
    have R17 := Aside0.mk (R9_fr TT2 TKd.out (by decide) R1d.out)
    have R27 := Aside0.mk (R9_fr TT2 TKd.out (by decide) R2d.out)
    clear TT TT1 TT2 TKd BNd R1d R2d HFd
    go_wp2
    have HW := Aside0.mk (show wrap64 ((kk : Int) + 1) = ((kk + 1 : Nat) : Int) by unfold wrap64; omega)
    have HPN := Aside0.mk (show prn = pr ++ pairsTo keys vals (kk + 1) by rw [pairsTo_succ, ← List.append_assoc, ← HPRK.out, HPAIR.out]; exact HKS3.out)
    go_roundg (keys.length - (kk + 1))
    case measure => omega
    case rel => exact ⟨kk + 1, true, Ao3, co3, by omega, by omega, by first | rfl | exact congrArg (Value.int .i64) HW.out, ⟨by rw [HLS.out]; unfold outB; simp [*]⟩, by rw [← HPN.out]; exact T7, BN7, R17, R27, by rw [← HPN.out]; exact HF7⟩
   | false =>
    cases has with
    | false =>
     go_upto_region 12 with (fail)
     have TK2 := TK
     have HFK2 := HFK
     have BNK2 := BNK
     have R1K2 := R1K
     have R2K2 := R2K
     clear TK HFK BNK R1K R2K hk1 hn1 hn0 hs4 hfs hgs
     generalize hwx : wr = wv at TK2 HFK2 BNK2 R1K2 R2K2 ⊢
     clear hwx
     have TKd := Aside0.mk TK2.out.drew
     have BNd := Aside0.mk (blk_below BNK2.out (Below.refl _ _).drew)
     have R1d := Aside0.mk (Kd.R_below R1K2.out (Below.refl _ _).drew)
     have R2d := Aside0.mk (Kd.R_below R2K2.out (Below.refl _ _).drew)
     have HFd := Aside0.mk (HFK2.out.below (Below.refl _ _).drew)
     clear TK2 BNK2 R1K2 R2K2 HFK2
     refine seq_start spec_l07Walk.ok12_0 (S := fun w' => w'.cell? ⟨g, 0, none⟩ = some (.slice Apk prk.length cpk) ∧ w'.cell? ⟨gN, 2, none⟩ = some (.slice (some ad2) vals.length c2) ∧ w'.cell? (ad2.add kk) = some (.string val)) (by kernel_rfl) (fun _ _ _ _ h => h) ⟨(blk_cell TKd.out.bT 0).trans rfl, (blk_cell BNd.out 2).trans rfl, (seen_str R2d.out hlv).trans (by rw [HVAL.out])⟩ (fun hHeld => ?_)
     generalize wv.drew = wd at TKd BNd R1d R2d HFd hHeld ⊢
     iterate 4 (refine seq_p (v := ?_) (a' := ?_) rfl rfl (Or.inl ⟨by rfl, ?_⟩) ?_ ?_; rotate_left; (· intro w'; go_simp; with_reducible rfl); rotate_left; (· show Act.put _ (some _) _ = _; simp only [Act.put, List.setIfInBounds_toArray, List.set_cons_zero, List.set_cons_succ, i64_w, i32_w]; try rfl))
     (refine seq_t (v := ?_) (a' := ?_) rfl rfl (Or.inl ⟨by rfl, ?_⟩) ?_ ?_; rotate_left; (· rintro w' ⟨s0, s1, s2⟩; go_simp; with_reducible rfl); rotate_left; (· show Act.put _ (some _) _ = _; simp only [Act.put, List.setIfInBounds_toArray, List.set_cons_zero, List.set_cons_succ, i64_w, i32_w]; try rfl))
     iterate 2 (refine seq_p (v := ?_) (a' := ?_) rfl rfl (Or.inl ⟨by rfl, ?_⟩) ?_ ?_; rotate_left; (· intro w'; go_simp; with_reducible rfl); rotate_left; (· show Act.put _ (some _) _ = _; simp only [Act.put, List.setIfInBounds_toArray, List.set_cons_zero, List.set_cons_succ, i64_w, i32_w]; try rfl))
     (refine seq_t (v := ?_) (a' := ?_) rfl rfl (Or.inl ⟨by rfl, ?_⟩) ?_ ?_; rotate_left; (· rintro w' ⟨s0, s1, s2⟩; go_simp; with_reducible rfl); rotate_left; (· show Act.put _ (some _) _ = _; simp only [Act.put, List.setIfInBounds_toArray, List.set_cons_zero, List.set_cons_succ, i64_w, i32_w]; try rfl))
     iterate 2 (refine seq_p (v := ?_) (a' := ?_) rfl rfl (Or.inl ⟨by rfl, ?_⟩) ?_ ?_; rotate_left; (· intro w'; go_simp; with_reducible rfl); rotate_left; (· show Act.put _ (some _) _ = _; simp only [Act.put, List.setIfInBounds_toArray, List.set_cons_zero, List.set_cons_succ, i64_w, i32_w]; try rfl))
     (refine seq_t (v := ?_) (a' := ?_) rfl rfl (Or.inl ⟨by rfl, ?_⟩) ?_ ?_; rotate_left; (· rintro w' ⟨s0, s1, s2⟩; go_simp; with_reducible rfl); rotate_left; (· show Act.put _ (some _) _ = _; simp only [Act.put, List.setIfInBounds_toArray, List.set_cons_zero, List.set_cons_succ, i64_w, i32_w]; try rfl))
     (refine seq_p (v := ?_) (a' := ?_) rfl rfl (Or.inl ⟨by rfl, ?_⟩) ?_ ?_; rotate_left; (· intro w'; go_simp; with_reducible rfl); rotate_left; (· show Act.put _ (some _) _ = _; simp only [Act.put, List.setIfInBounds_toArray, List.set_cons_zero, List.set_cons_succ, i64_w, i32_w]; try rfl))
     refine seq_e rfl rfl (fun K hK => ?_)
     refine value_ (w1 := ?_) (v := ?_) (by rfl) rfl ?_ ?_
     rotate_left 2
     ·go_simp
      constructor
      ·rfl
      ·rfl
     refine hK.out _ _ ⟨(blk_cell (TKd.out.below (below_alloc (Below.refl _ _) _)).bT 0).trans rfl, (blk_cell (blk_alloc BNd.out _) 2).trans rfl, (seen_str (Kd.R_below R2d.out (below_alloc (Below.refl _ _) _)) hlv).trans (by rw [HVAL.out])⟩ (fun hHeld => ?_)
     clear hK K
     refine seq_norm (a' := ?_) ?_ ?_; rotate_left; (· show Act.put _ (some 101) _ = _; simp only [Act.put, List.setIfInBounds_toArray, List.set_cons_zero, List.set_cons_succ, i64_w, i32_w]; try rfl)
     refine seq_e rfl rfl (fun K hK => ?_)
     refine Kd.R_append_step k140 (w0 := w0) w0.heap.size (by rfl) (.tmp 93) (.tmp 101) 80 140 (.agg #[.string ⟨#[]⟩, .string ⟨#[]⟩]) 32 rfl Try.underlying80 info140d rfl (by decide) (by omega) (.slice Apk prk.length cpk) prk (⟨key, val⟩ : S140) [.string key, .string val] (fun _ => True) (fun _ => False) rfl rfl ?aP (fun _ hk => hk.elim) ?aF ?aO ?aB ?aS ?aL ?_
     (case aP => exact k140_mkM _ _ _ _)
     (case aF => exact (fun _ _ => trivial))
     (case aO => exact TKd.out.rp)
     (case aB => exact TKd.out.bel)
     (case aS => exact TKd.out.bel.size)
     (case aL => have := HLQ.out; omega)
     intro va wa ho hb hgr hat
     have ba := Aside0.mk (blk_grown TKd.out.bT hgr (Kd.R_ne TKd.out.rp TKd.out.bT (by decide)))
     have bna := Aside0.mk (blk_grown BNd.out hgr (Kd.R_ne TKd.out.rp BNd.out (by decide)))
     have r2a := Aside0.mk (Kd.R_over' R2d.out (Kd.R_typed TKd.out.rp) (by decide) hgr)
     rw [← HKS3.out] at ho
     obtain ⟨Ao3, co3, eo⟩ := Kd.R_slice ho
     subst eo
     have TT := Aside0.mk (TKd.out.pushPr layS (by decide) ho hb hgr hat)
     clear ho hb hgr hat
     refine hK.out _ _ ⟨(blk_cell ba.out 0).trans rfl, (blk_cell bna.out 2).trans rfl, (seen_str r2a.out hlv).trans (by rw [HVAL.out])⟩ (fun hHeld => ?_)
     clear hK K
     refine seq_norm (a' := ?_) ?_ ?_; rotate_left; (· show Act.put _ (some 102) _ = _; simp only [Act.put, List.setIfInBounds_toArray, List.set_cons_zero, List.set_cons_succ, i64_w, i32_w]; try rfl)
     iterate 2 (refine seq_p (v := ?_) (a' := ?_) rfl rfl (Or.inl ⟨by rfl, ?_⟩) ?_ ?_; rotate_left; (· intro w'; go_simp; with_reducible rfl); rotate_left; (· show Act.put _ (some _) _ = _; simp only [Act.put, List.setIfInBounds_toArray, List.set_cons_zero, List.set_cons_succ, i64_w, i32_w]; try rfl))
     refine seq_l rfl rfl (fun K hK => ?_)
     have hs1 : wa.cell? ⟨g, 0, none⟩ = some (.slice Apk prk.length cpk) := (blk_cell ba.out 0).trans rfl
     have hf1 := blk_frozen ba.out 0
     refine skip_ (w1 := ?_) (by rfl) rfl ?_ ?_
     rotate_left
     ·go_simp
      rfl
     refine hK.out _ _ ?_
     clear hK K
     refine seq_done ?_
     clear ba bna r2a hs1 hf1 hHeld
     generalize hwx : wa.setCell ⟨g, 0, none⟩ _ = w7 at TT ⊢
     clear hwx
     obtain ⟨TT1, TT2⟩ := TT.out
     have T7 := Aside0.mk TT1
     have HF7 := Aside0.mk (HFd.out.trans TT2)
     have BN7 := Aside0.mk (blk_fr TT2 TKd.out BNd.out (by decide))
     have R17 := Aside0.mk (R9_fr TT2 TKd.out (by decide) R1d.out)
     have R27 := Aside0.mk (R9_fr TT2 TKd.out (by decide) R2d.out)
     clear TT TT1 TT2 TKd BNd R1d R2d HFd
     go_wp2
     have HW := Aside0.mk (show wrap64 ((kk : Int) + 1) = ((kk + 1 : Nat) : Int) by unfold wrap64; omega)
     have HPN := Aside0.mk (show prn = pr ++ pairsTo keys vals (kk + 1) by rw [pairsTo_succ, ← List.append_assoc, ← HPRK.out, HPAIR.out]; exact HKS3.out)
     go_roundg (keys.length - (kk + 1))
     case measure => omega
     case rel => exact ⟨kk + 1, lk, Ao3, co3, by omega, by omega, by first | rfl | exact congrArg (Value.int .i64) HW.out, ⟨by rw [HLS.out]; unfold outB; simp [*]⟩, by rw [← HPN.out]; exact T7, BN7, R17, R27, by rw [← HPN.out]; exact HF7⟩
    | true =>
     cases hb2 : Op.bytesLess key.toList high.toList with
     | true =>
      go_upto_region 12 with (fail)
      have TK2 := TK
      have HFK2 := HFK
      have BNK2 := BNK
      have R1K2 := R1K
      have R2K2 := R2K
      clear TK HFK BNK R1K R2K hk1 hn1 hn0 hs4 hfs hgs
      generalize hwx : wr = wv at TK2 HFK2 BNK2 R1K2 R2K2 ⊢
      clear hwx
      have TKd := Aside0.mk TK2.out.drew
      have BNd := Aside0.mk (blk_below BNK2.out (Below.refl _ _).drew)
      have R1d := Aside0.mk (Kd.R_below R1K2.out (Below.refl _ _).drew)
      have R2d := Aside0.mk (Kd.R_below R2K2.out (Below.refl _ _).drew)
      have HFd := Aside0.mk (HFK2.out.below (Below.refl _ _).drew)
      clear TK2 BNK2 R1K2 R2K2 HFK2
      refine seq_start spec_l07Walk.ok12_0 (S := fun w' => w'.cell? ⟨g, 0, none⟩ = some (.slice Apk prk.length cpk) ∧ w'.cell? ⟨gN, 2, none⟩ = some (.slice (some ad2) vals.length c2) ∧ w'.cell? (ad2.add kk) = some (.string val)) (by kernel_rfl) (fun _ _ _ _ h => h) ⟨(blk_cell TKd.out.bT 0).trans rfl, (blk_cell BNd.out 2).trans rfl, (seen_str R2d.out hlv).trans (by rw [HVAL.out])⟩ (fun hHeld => ?_)
      generalize wv.drew = wd at TKd BNd R1d R2d HFd hHeld ⊢
      iterate 4 (refine seq_p (v := ?_) (a' := ?_) rfl rfl (Or.inl ⟨by rfl, ?_⟩) ?_ ?_; rotate_left; (· intro w'; go_simp; with_reducible rfl); rotate_left; (· show Act.put _ (some _) _ = _; simp only [Act.put, List.setIfInBounds_toArray, List.set_cons_zero, List.set_cons_succ, i64_w, i32_w]; try rfl))
      (refine seq_t (v := ?_) (a' := ?_) rfl rfl (Or.inl ⟨by rfl, ?_⟩) ?_ ?_; rotate_left; (· rintro w' ⟨s0, s1, s2⟩; go_simp; with_reducible rfl); rotate_left; (· show Act.put _ (some _) _ = _; simp only [Act.put, List.setIfInBounds_toArray, List.set_cons_zero, List.set_cons_succ, i64_w, i32_w]; try rfl))
      iterate 2 (refine seq_p (v := ?_) (a' := ?_) rfl rfl (Or.inl ⟨by rfl, ?_⟩) ?_ ?_; rotate_left; (· intro w'; go_simp; with_reducible rfl); rotate_left; (· show Act.put _ (some _) _ = _; simp only [Act.put, List.setIfInBounds_toArray, List.set_cons_zero, List.set_cons_succ, i64_w, i32_w]; try rfl))
      (refine seq_t (v := ?_) (a' := ?_) rfl rfl (Or.inl ⟨by rfl, ?_⟩) ?_ ?_; rotate_left; (· rintro w' ⟨s0, s1, s2⟩; go_simp; with_reducible rfl); rotate_left; (· show Act.put _ (some _) _ = _; simp only [Act.put, List.setIfInBounds_toArray, List.set_cons_zero, List.set_cons_succ, i64_w, i32_w]; try rfl))
      iterate 2 (refine seq_p (v := ?_) (a' := ?_) rfl rfl (Or.inl ⟨by rfl, ?_⟩) ?_ ?_; rotate_left; (· intro w'; go_simp; with_reducible rfl); rotate_left; (· show Act.put _ (some _) _ = _; simp only [Act.put, List.setIfInBounds_toArray, List.set_cons_zero, List.set_cons_succ, i64_w, i32_w]; try rfl))
      (refine seq_t (v := ?_) (a' := ?_) rfl rfl (Or.inl ⟨by rfl, ?_⟩) ?_ ?_; rotate_left; (· rintro w' ⟨s0, s1, s2⟩; go_simp; with_reducible rfl); rotate_left; (· show Act.put _ (some _) _ = _; simp only [Act.put, List.setIfInBounds_toArray, List.set_cons_zero, List.set_cons_succ, i64_w, i32_w]; try rfl))
      (refine seq_p (v := ?_) (a' := ?_) rfl rfl (Or.inl ⟨by rfl, ?_⟩) ?_ ?_; rotate_left; (· intro w'; go_simp; with_reducible rfl); rotate_left; (· show Act.put _ (some _) _ = _; simp only [Act.put, List.setIfInBounds_toArray, List.set_cons_zero, List.set_cons_succ, i64_w, i32_w]; try rfl))
      refine seq_e rfl rfl (fun K hK => ?_)
      refine value_ (w1 := ?_) (v := ?_) (by rfl) rfl ?_ ?_
      rotate_left 2
      ·go_simp
       constructor
       ·rfl
       ·rfl
      refine hK.out _ _ ⟨(blk_cell (TKd.out.below (below_alloc (Below.refl _ _) _)).bT 0).trans rfl, (blk_cell (blk_alloc BNd.out _) 2).trans rfl, (seen_str (Kd.R_below R2d.out (below_alloc (Below.refl _ _) _)) hlv).trans (by rw [HVAL.out])⟩ (fun hHeld => ?_)
      clear hK K
      refine seq_norm (a' := ?_) ?_ ?_; rotate_left; (· show Act.put _ (some 101) _ = _; simp only [Act.put, List.setIfInBounds_toArray, List.set_cons_zero, List.set_cons_succ, i64_w, i32_w]; try rfl)
      refine seq_e rfl rfl (fun K hK => ?_)
      refine Kd.R_append_step k140 (w0 := w0) w0.heap.size (by rfl) (.tmp 93) (.tmp 101) 80 140 (.agg #[.string ⟨#[]⟩, .string ⟨#[]⟩]) 32 rfl Try.underlying80 info140d rfl (by decide) (by omega) (.slice Apk prk.length cpk) prk (⟨key, val⟩ : S140) [.string key, .string val] (fun _ => True) (fun _ => False) rfl rfl ?aP (fun _ hk => hk.elim) ?aF ?aO ?aB ?aS ?aL ?_
      (case aP => exact k140_mkM _ _ _ _)
      (case aF => exact (fun _ _ => trivial))
      (case aO => exact TKd.out.rp)
      (case aB => exact TKd.out.bel)
      (case aS => exact TKd.out.bel.size)
      (case aL => have := HLQ.out; omega)
      intro va wa ho hb hgr hat
      have ba := Aside0.mk (blk_grown TKd.out.bT hgr (Kd.R_ne TKd.out.rp TKd.out.bT (by decide)))
      have bna := Aside0.mk (blk_grown BNd.out hgr (Kd.R_ne TKd.out.rp BNd.out (by decide)))
      have r2a := Aside0.mk (Kd.R_over' R2d.out (Kd.R_typed TKd.out.rp) (by decide) hgr)
      rw [← HKS3.out] at ho
      obtain ⟨Ao3, co3, eo⟩ := Kd.R_slice ho
      subst eo
      have TT := Aside0.mk (TKd.out.pushPr layS (by decide) ho hb hgr hat)
      clear ho hb hgr hat
      refine hK.out _ _ ⟨(blk_cell ba.out 0).trans rfl, (blk_cell bna.out 2).trans rfl, (seen_str r2a.out hlv).trans (by rw [HVAL.out])⟩ (fun hHeld => ?_)
      clear hK K
      refine seq_norm (a' := ?_) ?_ ?_; rotate_left; (· show Act.put _ (some 102) _ = _; simp only [Act.put, List.setIfInBounds_toArray, List.set_cons_zero, List.set_cons_succ, i64_w, i32_w]; try rfl)
      iterate 2 (refine seq_p (v := ?_) (a' := ?_) rfl rfl (Or.inl ⟨by rfl, ?_⟩) ?_ ?_; rotate_left; (· intro w'; go_simp; with_reducible rfl); rotate_left; (· show Act.put _ (some _) _ = _; simp only [Act.put, List.setIfInBounds_toArray, List.set_cons_zero, List.set_cons_succ, i64_w, i32_w]; try rfl))
      refine seq_l rfl rfl (fun K hK => ?_)
      have hs1 : wa.cell? ⟨g, 0, none⟩ = some (.slice Apk prk.length cpk) := (blk_cell ba.out 0).trans rfl
      have hf1 := blk_frozen ba.out 0
      refine skip_ (w1 := ?_) (by rfl) rfl ?_ ?_
      rotate_left
      ·go_simp
       rfl
      refine hK.out _ _ ?_
      clear hK K
      refine seq_done ?_
      clear ba bna r2a hs1 hf1 hHeld
      generalize hwx : wa.setCell ⟨g, 0, none⟩ _ = w7 at TT ⊢
      clear hwx
      obtain ⟨TT1, TT2⟩ := TT.out
      have T7 := Aside0.mk TT1
      have HF7 := Aside0.mk (HFd.out.trans TT2)
      have BN7 := Aside0.mk (blk_fr TT2 TKd.out BNd.out (by decide))
      have R17 := Aside0.mk (R9_fr TT2 TKd.out (by decide) R1d.out)
      have R27 := Aside0.mk (R9_fr TT2 TKd.out (by decide) R2d.out)
      clear TT TT1 TT2 TKd BNd R1d R2d HFd
      go_wp2
      have HW := Aside0.mk (show wrap64 ((kk : Int) + 1) = ((kk + 1 : Nat) : Int) by unfold wrap64; omega)
      have HPN := Aside0.mk (show prn = pr ++ pairsTo keys vals (kk + 1) by rw [pairsTo_succ, ← List.append_assoc, ← HPRK.out, HPAIR.out]; exact HKS3.out)
      go_roundg (keys.length - (kk + 1))
      case measure => omega
      case rel => exact ⟨kk + 1, lk, Ao3, co3, by omega, by omega, by first | rfl | exact congrArg (Value.int .i64) HW.out, ⟨by rw [HLS.out]; unfold outB; simp [*]⟩, by rw [← HPN.out]; exact T7, BN7, R17, R27, by rw [← HPN.out]; exact HF7⟩
     | false =>
      go_upto_region 12 with (fail)
      have TK2 := Aside0.mk (set1 (x := true) layS (by decide) TK.out)
      have HFK2 := Aside0.mk (HFK.out.set 4 (.bool true))
      have BNK2 := Aside0.mk (blk_far (p := ⟨g, 4, none⟩) BNK.out (blk_ne BNK.out TK.out.bT (by decide)) (.bool true))
      have R1K2 := Aside0.mk (Kd.R_set R1K.out TK.out.bT (by decide) 4 (.bool true))
      have R2K2 := Aside0.mk (Kd.R_set R2K.out TK.out.bT (by decide) 4 (.bool true))
      clear TK HFK BNK R1K R2K hk1 hn1 hn0 hs4 hfs hgs
      generalize hwx : wr.setCell ⟨g, 4, none⟩ _ = wv at TK2 HFK2 BNK2 R1K2 R2K2 ⊢
      clear hwx
      have TKd := Aside0.mk TK2.out.drew
      have BNd := Aside0.mk (blk_below BNK2.out (Below.refl _ _).drew)
      have R1d := Aside0.mk (Kd.R_below R1K2.out (Below.refl _ _).drew)
      have R2d := Aside0.mk (Kd.R_below R2K2.out (Below.refl _ _).drew)
      have HFd := Aside0.mk (HFK2.out.below (Below.refl _ _).drew)
      clear TK2 BNK2 R1K2 R2K2 HFK2
      refine seq_start spec_l07Walk.ok12_0 (S := fun w' => w'.cell? ⟨g, 0, none⟩ = some (.slice Apk prk.length cpk) ∧ w'.cell? ⟨gN, 2, none⟩ = some (.slice (some ad2) vals.length c2) ∧ w'.cell? (ad2.add kk) = some (.string val)) (by kernel_rfl) (fun _ _ _ _ h => h) ⟨(blk_cell TKd.out.bT 0).trans rfl, (blk_cell BNd.out 2).trans rfl, (seen_str R2d.out hlv).trans (by rw [HVAL.out])⟩ (fun hHeld => ?_)
      generalize wv.drew = wd at TKd BNd R1d R2d HFd hHeld ⊢
      iterate 4 (refine seq_p (v := ?_) (a' := ?_) rfl rfl (Or.inl ⟨by rfl, ?_⟩) ?_ ?_; rotate_left; (· intro w'; go_simp; with_reducible rfl); rotate_left; (· show Act.put _ (some _) _ = _; simp only [Act.put, List.setIfInBounds_toArray, List.set_cons_zero, List.set_cons_succ, i64_w, i32_w]; try rfl))
      (refine seq_t (v := ?_) (a' := ?_) rfl rfl (Or.inl ⟨by rfl, ?_⟩) ?_ ?_; rotate_left; (· rintro w' ⟨s0, s1, s2⟩; go_simp; with_reducible rfl); rotate_left; (· show Act.put _ (some _) _ = _; simp only [Act.put, List.setIfInBounds_toArray, List.set_cons_zero, List.set_cons_succ, i64_w, i32_w]; try rfl))
      iterate 2 (refine seq_p (v := ?_) (a' := ?_) rfl rfl (Or.inl ⟨by rfl, ?_⟩) ?_ ?_; rotate_left; (· intro w'; go_simp; with_reducible rfl); rotate_left; (· show Act.put _ (some _) _ = _; simp only [Act.put, List.setIfInBounds_toArray, List.set_cons_zero, List.set_cons_succ, i64_w, i32_w]; try rfl))
      (refine seq_t (v := ?_) (a' := ?_) rfl rfl (Or.inl ⟨by rfl, ?_⟩) ?_ ?_; rotate_left; (· rintro w' ⟨s0, s1, s2⟩; go_simp; with_reducible rfl); rotate_left; (· show Act.put _ (some _) _ = _; simp only [Act.put, List.setIfInBounds_toArray, List.set_cons_zero, List.set_cons_succ, i64_w, i32_w]; try rfl))
      iterate 2 (refine seq_p (v := ?_) (a' := ?_) rfl rfl (Or.inl ⟨by rfl, ?_⟩) ?_ ?_; rotate_left; (· intro w'; go_simp; with_reducible rfl); rotate_left; (· show Act.put _ (some _) _ = _; simp only [Act.put, List.setIfInBounds_toArray, List.set_cons_zero, List.set_cons_succ, i64_w, i32_w]; try rfl))
      (refine seq_t (v := ?_) (a' := ?_) rfl rfl (Or.inl ⟨by rfl, ?_⟩) ?_ ?_; rotate_left; (· rintro w' ⟨s0, s1, s2⟩; go_simp; with_reducible rfl); rotate_left; (· show Act.put _ (some _) _ = _; simp only [Act.put, List.setIfInBounds_toArray, List.set_cons_zero, List.set_cons_succ, i64_w, i32_w]; try rfl))
      (refine seq_p (v := ?_) (a' := ?_) rfl rfl (Or.inl ⟨by rfl, ?_⟩) ?_ ?_; rotate_left; (· intro w'; go_simp; with_reducible rfl); rotate_left; (· show Act.put _ (some _) _ = _; simp only [Act.put, List.setIfInBounds_toArray, List.set_cons_zero, List.set_cons_succ, i64_w, i32_w]; try rfl))
      refine seq_e rfl rfl (fun K hK => ?_)
      refine value_ (w1 := ?_) (v := ?_) (by rfl) rfl ?_ ?_
      rotate_left 2
      ·go_simp
       constructor
       ·rfl
       ·rfl
      refine hK.out _ _ ⟨(blk_cell (TKd.out.below (below_alloc (Below.refl _ _) _)).bT 0).trans rfl, (blk_cell (blk_alloc BNd.out _) 2).trans rfl, (seen_str (Kd.R_below R2d.out (below_alloc (Below.refl _ _) _)) hlv).trans (by rw [HVAL.out])⟩ (fun hHeld => ?_)
      clear hK K
      refine seq_norm (a' := ?_) ?_ ?_; rotate_left; (· show Act.put _ (some 101) _ = _; simp only [Act.put, List.setIfInBounds_toArray, List.set_cons_zero, List.set_cons_succ, i64_w, i32_w]; try rfl)
      refine seq_e rfl rfl (fun K hK => ?_)
      refine Kd.R_append_step k140 (w0 := w0) w0.heap.size (by rfl) (.tmp 93) (.tmp 101) 80 140 (.agg #[.string ⟨#[]⟩, .string ⟨#[]⟩]) 32 rfl Try.underlying80 info140d rfl (by decide) (by omega) (.slice Apk prk.length cpk) prk (⟨key, val⟩ : S140) [.string key, .string val] (fun _ => True) (fun _ => False) rfl rfl ?aP (fun _ hk => hk.elim) ?aF ?aO ?aB ?aS ?aL ?_
      (case aP => exact k140_mkM _ _ _ _)
      (case aF => exact (fun _ _ => trivial))
      (case aO => exact TKd.out.rp)
      (case aB => exact TKd.out.bel)
      (case aS => exact TKd.out.bel.size)
      (case aL => have := HLQ.out; omega)
      intro va wa ho hb hgr hat
      have ba := Aside0.mk (blk_grown TKd.out.bT hgr (Kd.R_ne TKd.out.rp TKd.out.bT (by decide)))
      have bna := Aside0.mk (blk_grown BNd.out hgr (Kd.R_ne TKd.out.rp BNd.out (by decide)))
      have r2a := Aside0.mk (Kd.R_over' R2d.out (Kd.R_typed TKd.out.rp) (by decide) hgr)
      rw [← HKS3.out] at ho
      obtain ⟨Ao3, co3, eo⟩ := Kd.R_slice ho
      subst eo
      have TT := Aside0.mk (TKd.out.pushPr layS (by decide) ho hb hgr hat)
      clear ho hb hgr hat
      refine hK.out _ _ ⟨(blk_cell ba.out 0).trans rfl, (blk_cell bna.out 2).trans rfl, (seen_str r2a.out hlv).trans (by rw [HVAL.out])⟩ (fun hHeld => ?_)
      clear hK K
      refine seq_norm (a' := ?_) ?_ ?_; rotate_left; (· show Act.put _ (some 102) _ = _; simp only [Act.put, List.setIfInBounds_toArray, List.set_cons_zero, List.set_cons_succ, i64_w, i32_w]; try rfl)
      iterate 2 (refine seq_p (v := ?_) (a' := ?_) rfl rfl (Or.inl ⟨by rfl, ?_⟩) ?_ ?_; rotate_left; (· intro w'; go_simp; with_reducible rfl); rotate_left; (· show Act.put _ (some _) _ = _; simp only [Act.put, List.setIfInBounds_toArray, List.set_cons_zero, List.set_cons_succ, i64_w, i32_w]; try rfl))
      refine seq_l rfl rfl (fun K hK => ?_)
      have hs1 : wa.cell? ⟨g, 0, none⟩ = some (.slice Apk prk.length cpk) := (blk_cell ba.out 0).trans rfl
      have hf1 := blk_frozen ba.out 0
      refine skip_ (w1 := ?_) (by rfl) rfl ?_ ?_
      rotate_left
      ·go_simp
       rfl
      refine hK.out _ _ ?_
      clear hK K
      refine seq_done ?_
      clear ba bna r2a hs1 hf1 hHeld
      generalize hwx : wa.setCell ⟨g, 0, none⟩ _ = w7 at TT ⊢
      clear hwx
      obtain ⟨TT1, TT2⟩ := TT.out
      have T7 := Aside0.mk TT1
      have HF7 := Aside0.mk (HFd.out.trans TT2)
      have BN7 := Aside0.mk (blk_fr TT2 TKd.out BNd.out (by decide))
      have R17 := Aside0.mk (R9_fr TT2 TKd.out (by decide) R1d.out)
      have R27 := Aside0.mk (R9_fr TT2 TKd.out (by decide) R2d.out)
      clear TT TT1 TT2 TKd BNd R1d R2d HFd
      go_wp2
      have HW := Aside0.mk (show wrap64 ((kk : Int) + 1) = ((kk + 1 : Nat) : Int) by unfold wrap64; omega)
      have HPN := Aside0.mk (show prn = pr ++ pairsTo keys vals (kk + 1) by rw [pairsTo_succ, ← List.append_assoc, ← HPRK.out, HPAIR.out]; exact HKS3.out)
      go_roundg (keys.length - (kk + 1))
      case measure => omega
      case rel => exact ⟨kk + 1, true, Ao3, co3, by omega, by omega, by first | rfl | exact congrArg (Value.int .i64) HW.out, ⟨by rw [HLS.out]; unfold outB; simp [*]⟩, by rw [← HPN.out]; exact T7, BN7, R17, R27, by rw [← HPN.out]; exact HF7⟩
  ·have hltz : ¬ (kk : Int) < (keys.length : Int) := by omega
   have : kk = keys.length := by omega
   subst this
   rw [List.take_length] at HLKK
   have hn1 : wr.cell? ⟨gN, 1, none⟩ = some (.slice A1 keys.length c1) := (blk_cell BNK.out 1).trans rfl
   have hn0 : wr.cell? ⟨gN, 0, none⟩ = some (.bool true) := (blk_cell BNK.out 0).trans rfl
   have hd2 : wr.cell? ⟨g, 2, none⟩ = some (.slice Ad dp.length cd) := (blk_cell TK.out.bT 2).trans rfl
   have hgs := blk_lt TK.out.bT
   go_wp2_with (((with_reducible refine gate_builtin (b := .append) (xs := #[.tmp 157, .tmp 159]) rfl ?_); at_builtin; refine Kd.R_append (Kd.int .i64) (w0 := w0) w0.heap.size rfl (.tmp 157) (.tmp 159) 30 3 (.int .i64 0) 8 rfl Try.underlying30 info3d rfl (by decide) (by omega) (.slice Ad dp.length cd) dp deep [.int .i64 deep] (fun _ => True) (fun _ => False) rfl rfl ?aP (fun _ hk => hk.elim) ?aF ?aO ?aB ?aS ?aL ?_; (case aP => exact rfl); (case aF => exact (fun _ _ => trivial)); (case aO => exact TK.out.rd); (case aB => exact TK.out.bel); (case aS => exact TK.out.bel.size); (case aL => have := HLD.out; omega); intro va wa ho hb hgr hat; rw [← HKS2.out] at ho; obtain ⟨Ao2, co2, eo⟩ := Kd.R_slice ho; subst eo; have ba := Aside0.mk (blk_grown TK.out.bT hgr (Kd.R_ne TK.out.rd TK.out.bT (by decide))); have hsa : wa.cell? ⟨g, 2, none⟩ = some (.slice Ad dp.length cd) := (blk_cell ba.out 2).trans rfl; have hfa := blk_frozen ba.out; have hla := blk_lt ba.out; have TT := Aside0.mk (TK.out.pushDp layS (by decide) ho hb hgr hat); clear ho hb hgr hat))
   refine bodyPost_ret (results_list (rs := []) (vs := []) rfl (by simp) Vals.nil) rfl ?_
   rw [← HKS1.out, ← HKS2.out, ← HLKK.out]
   exact ⟨rfl, _, _, _, _, _, _, TT.out.1, HFK.out.trans TT.out.2⟩
def spec_l07Walk.T21 : Bool × List (List Nat × List Nat) := (true, [([], []), ([], []), ([1], [1]), ([], []), ([2, 3], [2, 3]), ([4], [4]), ([], []), ([6], [6]), ([], []), ([], []), ([], []), ([], []), ([0, 5, 7, 8, 9, 10, 11], [0, 5, 7, 8, 9, 10, 11])])
def spec_l07Walk.B21 : List Nat := [0, 0, 2, 0, 14, 30, 0, 64, 0, 0, 0, 0, 4095]
theorem spec_l07Walk.ok21_1 : regB (opsOf Try.f140 21) spec_l07Walk.T21 spec_l07Walk.B21 [12] [.t 0, .p 1, .t 2, .p 3, .p 4, .t 5, .p 6, .p 7, .p 8, .p 9, .p 10, .p 11, .l 12] = true := by kernel_rfl
theorem tail21 {AP AL A2 : Option Addr} {cP cL c1 c2 c3 kk gN gD g : Nat} {pages keys vals : List ByteArray} {late : List S189} {kids : List Int} {ad1 : Option Addr} {ad3 : Addr} {w0 w wr : World} {vg vp vd vg0 vp0 vd0 : Value} {b1 b2 ha : Bool} {pg dp : List Int} {pr : List S140} {sn : TSt} {kid deep : Int} {lo hi : ByteArray} {Q : Exit → Act → World → Prop} {a0 a1 a3 a4 a5 a8 a9 a10 a11 a12 a13 a15 a17 a21 a22 a23 a24 a25 a26 a27 a28 a29 a30 a31 a32 a33 a34 a35 a36 a37 a38 a39 a40 a41 a42 a43 a44 a45 a46 a47 a48 a49 a50 a51 a52 a53 a54 a55 a56 a57 a58 a59 a60 a61 a62 a63 a64 a65 a66 a67 a68 a69 a70 a71 a72 a73 a74 a75 a76 a77 a78 a79 a80 a81 a82 a83 a84 a85 a86 a87 a88 a89 a90 a91 a92 a93 a94 a95 a96 a97 a98 a99 a100 a101 a102 a103 a104 a105 a106 a107 a108 a109 a110 a111 a112 a113 a114 a115 a116 a117 a118 a119 a120 a121 a122 a123 a124 a125 a126 a127 a128 a129 a130 a131 a132 a133 a134 a135 a136 a137 a138 a139 a140 a141 a142 a143 a144 a145 a146 a147 a148 a149 a150 a151 a152 a153 a154 a155 a156 a157 a158 a159 a160 a161 a162 : Value}
  (hQ : ∀ c (a : Act) ts w, Q (.panic c) { a with tmps := ts } w → Q (.panic c) a w) (hT : TInv cellsS 138 w0 wr g vg vp vd b1 b2 pg pr dp) (hN : wr.heap[gN]? = some (.cells #[.bool false, .slice ad1 keys.length c1, .slice A2 vals.length c2, .slice (some ad3) kids.length c3] 68 (0, 0))) (hD : wr.heap[gD]? = some (.cells #[.slice AP pages.length cP, .slice AL late.length cL] 41 (0, 0))) (h1 : Kd.R Kd.string 9 wr w0.heap.size (fun _ => True) (.slice ad1 keys.length c1) keys) (h3 : Kd.R (Kd.int .i64) 3 wr w0.heap.size (fun _ => True) (.slice (some ad3) kids.length c3) kids ∧ NeRow (.slice (some ad3) kids.length c3) vg ∧ NeRow (.slice (some ad3) kids.length c3) vd) (hlk : kk < kids.length) (hlkz : (kk : Int) < (kids.length : Int)) (hkid : kids[kk] = kid) (hF : TFr w wr g vg0 vp0 vd0 vg vp vd)
  (hc : ∀ W, TInv cellsS 138 w0 W g vg vp vd b1 b2 pg pr dp → Calls Try.prog 140 #[.agg #[.slice AP pages.length cP, .slice AL late.length cL], .int .i64 kid, .int .i64 (wrap64 (deep + 1)), .string lo, .string hi, .bool ha, .pointer (some ⟨g, 0, none⟩)] W (DownPost cellsS 138 w0 W g vg vp vd sn))
  (h : ∀ (w6 : World) (Ag : Option Addr) (cg : Nat) (Ap : Option Addr) (cp : Nat) (Ad : Option Addr) (cd : Nat) (b138 b139 b140 b141 b142 b143 b144 b145 b146 b147 b148 b149 b150 : Value), TInv cellsS 138 w0 w6 g (.slice Ag sn.pg.length cg) (.slice Ap sn.pr.length cp) (.slice Ad sn.dp.length cd) sn.order sn.bad sn.pg sn.pr sn.dp → w6.heap[gN]? = some (.cells #[.bool false, .slice ad1 keys.length c1, .slice A2 vals.length c2, .slice (some ad3) kids.length c3] 68 (0, 0)) → w6.heap[gD]? = some (.cells #[.slice AP pages.length cP, .slice AL late.length cL] 41 (0, 0)) → Kd.R Kd.string 9 w6 w0.heap.size (fun _ => True) (.slice ad1 keys.length c1) keys → (Kd.R (Kd.int .i64) 3 w6 w0.heap.size (fun _ => True) (.slice (some ad3) kids.length c3) kids ∧ NeRow (.slice (some ad3) kids.length c3) (.slice Ag sn.pg.length cg) ∧ NeRow (.slice (some ad3) kids.length c3) (.slice Ad sn.dp.length cd)) → TFr w w6 g vg0 vp0 vd0 (.slice Ag sn.pg.length cg) (.slice Ap sn.pr.length cp) (.slice Ad sn.dp.length cd) → Q .normal ⟨#[a0, a1, .int .i64 deep, a3, a4, a5, .pointer (some ⟨g, 0, none⟩), .pointer (some ⟨gD, 0, none⟩), a8, a9, a10, a11, a12, a13, .pointer (some ⟨gN, 0, none⟩), a15, .int .i64 kk, a17, .string lo, .string hi, .bool ha, a21, a22, a23, a24, a25, a26, a27, a28, a29, a30, a31, a32, a33, a34, a35, a36, a37, a38, a39, a40, a41, a42, a43, a44, a45, a46, a47, a48, a49, a50, a51, a52, a53, a54, a55, a56, a57, a58, a59, a60, a61, a62, a63, a64, a65, a66, a67, a68, a69, a70, a71, a72, a73, a74, a75, a76, a77, a78, a79, a80, a81, a82, a83, a84, a85, a86, a87, a88, a89, a90, a91, a92, a93, a94, a95, a96, a97, a98, a99, a100, a101, a102, a103, a104, a105, a106, a107, a108, a109, a110, a111, a112, a113, a114, a115, a116, a117, a118, a119, a120, a121, a122, a123, a124, a125, a126, a127, a128, a129, a130, a131, a132, a133, a134, a135, a136, a137, b138, b139, b140, b141, b142, b143, b144, b145, b146, b147, b148, b149, b150, a151, a152, a153, a154, a155, a156, a157, a158, a159, a160, a161, a162], []⟩ w6) :
  Code.wp Try.prog (Code.region 21 #[{ dst := some 138, op := Op.load 41 (Operand.tmp 7), type := 41, pos := "l07_look.go:59", after := #[], guard := none }, { dst := some 139, op := Op.fieldAddr 68 (Operand.tmp 14) 3, type := 0, pos := "l07_look.go:59", after := #[], guard := none }, { dst := some 140, op := Op.load 30 (Operand.tmp 139), type := 30, pos := "l07_look.go:59", after := #[{ on := 1, ground := Ground.data }], guard := none }, { dst := some 141, op := Op.move (Operand.tmp 16), type := 3, pos := "l07_look.go:59", after := #[], guard := none }, { dst := some 142, op := Op.indexAddr 30 (Operand.tmp 140) (Operand.tmp 141), type := 0, pos := "l07_look.go:59", after := #[{ on := 2, ground := Ground.data }, { on := 3, ground := Ground.data }], guard := none }, { dst := some 143, op := Op.load 3 (Operand.tmp 142), type := 3, pos := "l07_look.go:59", after := #[{ on := 4, ground := Ground.data }], guard := none }, { dst := some 144, op := Op.move (Operand.tmp 2), type := 3, pos := "l07_look.go:59", after := #[], guard := none }, { dst := some 145, op := Op.binOp BinOp.add 3 (Operand.tmp 144) (Operand.const (Value.int IntKind.i64 1)) 3, type := 3, pos := "l07_look.go:59", after := #[{ on := 6, ground := Ground.data }], guard := none }, { dst := some 146, op := Op.move (Operand.tmp 18), type := 9, pos := "l07_look.go:59", after := #[], guard := none }, { dst := some 147, op := Op.move (Operand.tmp 19), type := 9, pos := "l07_look.go:59", after := #[], guard := none }, { dst := some 148, op := Op.move (Operand.tmp 20), type := 4, pos := "l07_look.go:59", after := #[], guard := none }, { dst := some 149, op := Op.move (Operand.tmp 6), type := 135, pos := "l07_look.go:59", after := #[], guard := none }, { dst := some 150, op := Op.call { callee := Callee.value (Operand.func 140), args := #[Operand.tmp 138, Operand.tmp 143, Operand.tmp 145, Operand.tmp 146, Operand.tmp 147, Operand.tmp 148, Operand.tmp 149], argTypes := #[41, 3, 3, 9, 9, 4, 135] }, type := 0, pos := "l07_look.go:59", after := #[{ on := 0, ground := Ground.data }, { on := 5, ground := Ground.data }, { on := 7, ground := Ground.data }, { on := 8, ground := Ground.data }, { on := 9, ground := Ground.data }, { on := 10, ground := Ground.data }, { on := 11, ground := Ground.data }], guard := none }] true) Q ⟨#[a0, a1, .int .i64 deep, a3, a4, a5, .pointer (some ⟨g, 0, none⟩), .pointer (some ⟨gD, 0, none⟩), a8, a9, a10, a11, a12, a13, .pointer (some ⟨gN, 0, none⟩), a15, .int .i64 kk, a17, .string lo, .string hi, .bool ha, a21, a22, a23, a24, a25, a26, a27, a28, a29, a30, a31, a32, a33, a34, a35, a36, a37, a38, a39, a40, a41, a42, a43, a44, a45, a46, a47, a48, a49, a50, a51, a52, a53, a54, a55, a56, a57, a58, a59, a60, a61, a62, a63, a64, a65, a66, a67, a68, a69, a70, a71, a72, a73, a74, a75, a76, a77, a78, a79, a80, a81, a82, a83, a84, a85, a86, a87, a88, a89, a90, a91, a92, a93, a94, a95, a96, a97, a98, a99, a100, a101, a102, a103, a104, a105, a106, a107, a108, a109, a110, a111, a112, a113, a114, a115, a116, a117, a118, a119, a120, a121, a122, a123, a124, a125, a126, a127, a128, a129, a130, a131, a132, a133, a134, a135, a136, a137, a138, a139, a140, a141, a142, a143, a144, a145, a146, a147, a148, a149, a150, a151, a152, a153, a154, a155, a156, a157, a158, a159, a160, a161, a162], []⟩ wr := by
 have TK := Aside0.mk hT
 have BNK := Aside0.mk hN
 have BDK := Aside0.mk hD
 have R1K := Aside0.mk h1
 have R3K := Aside0.mk h3
 have HKID2 := Aside0.mk hkid
 have HFK := Aside0.mk hF
 have HC := Aside0.mk hc
 have HH := Aside0.mk h
 clear hT hN hD h1 h3 hkid hF hc h
 have Td := Aside0.mk TK.out.drew
 have Bd := Aside0.mk (blk_below BNK.out (Below.refl _ _).drew)
 have Bb := Aside0.mk (blk_below BDK.out (Below.refl _ _).drew)
 have Rd1 := Aside0.mk (Kd.R_below R1K.out (Below.refl _ _).drew)
 have Rd3 := Aside0.mk (And.intro (Kd.R_below R3K.out.1 (Below.refl _ _).drew) R3K.out.2)
 have Fd := Aside0.mk (HFK.out.below (Below.refl _ _).drew)
 clear TK BNK BDK R1K R3K HFK
 refine seq_start spec_l07Walk.ok21_1 (S := fun w' => w'.cell? ⟨gD, 0, none⟩ = some (.slice AP pages.length cP) ∧ w'.cell? ⟨gD, 1, none⟩ = some (.slice AL late.length cL) ∧ w'.cell? ⟨gN, 3, none⟩ = some (.slice (some ad3) kids.length c3) ∧ w'.cell? (ad3.add kk) = some (.int .i64 kid)) (by kernel_rfl) (hQ) ⟨(blk_cell Bb.out 0).trans rfl, (blk_cell Bb.out 1).trans rfl, (blk_cell Bd.out 3).trans rfl, (seen_int Rd3.out.1 hlk).trans (by rw [HKID2.out])⟩ (fun hHeld => ?_)
 generalize wr.drew = wd at Td Bd Bb Rd1 Rd3 Fd hHeld ⊢
 (refine seq_t (v := ?_) (a' := ?_) rfl rfl (Or.inl ⟨by rfl, ?_⟩) ?_ ?_; rotate_left; (· rintro w' ⟨s0, s1, s2, s3⟩; go_simp; with_reducible rfl); rotate_left; (· show Act.put _ (some _) _ = _; simp only [Act.put, List.setIfInBounds_toArray, List.set_cons_zero, List.set_cons_succ, i64_w, i32_w]; try rfl))
 (refine seq_p (v := ?_) (a' := ?_) rfl rfl (Or.inl ⟨by rfl, ?_⟩) ?_ ?_; rotate_left; (· intro w'; go_simp; with_reducible rfl); rotate_left; (· show Act.put _ (some _) _ = _; simp only [Act.put, List.setIfInBounds_toArray, List.set_cons_zero, List.set_cons_succ, i64_w, i32_w]; try rfl))
 (refine seq_t (v := ?_) (a' := ?_) rfl rfl (Or.inl ⟨by rfl, ?_⟩) ?_ ?_; rotate_left; (· rintro w' ⟨s0, s1, s2, s3⟩; go_simp; with_reducible rfl); rotate_left; (· show Act.put _ (some _) _ = _; simp only [Act.put, List.setIfInBounds_toArray, List.set_cons_zero, List.set_cons_succ, i64_w, i32_w]; try rfl))
 iterate 2 (refine seq_p (v := ?_) (a' := ?_) rfl rfl (Or.inl ⟨by rfl, ?_⟩) ?_ ?_; rotate_left; (· intro w'; go_simp; with_reducible rfl); rotate_left; (· show Act.put _ (some _) _ = _; simp only [Act.put, List.setIfInBounds_toArray, List.set_cons_zero, List.set_cons_succ, i64_w, i32_w]; try rfl))
 (refine seq_t (v := ?_) (a' := ?_) rfl rfl (Or.inl ⟨by rfl, ?_⟩) ?_ ?_; rotate_left; (· rintro w' ⟨s0, s1, s2, s3⟩; go_simp; with_reducible rfl); rotate_left; (· show Act.put _ (some _) _ = _; simp only [Act.put, List.setIfInBounds_toArray, List.set_cons_zero, List.set_cons_succ, i64_w, i32_w]; try rfl))
 iterate 6 (refine seq_p (v := ?_) (a' := ?_) rfl rfl (Or.inl ⟨by rfl, ?_⟩) ?_ ?_; rotate_left; (· intro w'; go_simp; with_reducible rfl); rotate_left; (· show Act.put _ (some _) _ = _; simp only [Act.put, List.setIfInBounds_toArray, List.set_cons_zero, List.set_cons_succ, i64_w, i32_w]; try rfl))
 refine seq_callast rfl rfl Try.func140 (by kernel_rfl) rfl #[.agg #[.slice AP pages.length cP, .slice AL late.length cL], .int .i64 kid, .int .i64 (wrap64 (deep + 1)), .string lo, .string hi, .bool ha, .pointer (some ⟨g, 0, none⟩)] (by rfl) rfl (by (try simp only [List.map_toArray, List.map_cons, List.map_nil]); first | done | rfl) ?_
 with_reducible refine (HC.out _ Td.out).mono ?_
 rintro e w6 ⟨rfl, Agn, cgn, Apn, cpn, Adn, cdn, TN, FN⟩
 refine ⟨_, rfl, ?_⟩
 refine seq_norm (a' := ?_) ?_ ?_; rotate_left; (· show Act.put _ (some 150) _ = _; simp only [Act.put, List.setIfInBounds_toArray, List.set_cons_zero, List.set_cons_succ, i64_w, i32_w]; try rfl)
 refine seq_done ?_
 exact HH.out w6 Agn cgn Apn cpn Adn cdn _ _ _ _ _ _ _ _ _ _ _ _ _ TN (blk_fr FN Td.out Bd.out (by decide)) (blk_fr FN Td.out Bb.out (by decide)) (R9_fr FN Td.out (by decide) Rd1.out) (R3_fr FN Td.out (by decide) Rd3.out.1 Rd3.out.2.1 Rd3.out.2.2) (Fd.out.trans FN)
theorem bytesLt : ∀ (x y : List UInt8), Op.bytesLess x y = decide (x < y)
 | [], [] => by simp [Op.bytesLess]
 | _ :: _, [] => by simp [Op.bytesLess]
 | [], _ :: _ => by simp [Op.bytesLess]
 | a :: x, b :: y => by
  rw [Op.bytesLess, bytesLt x y]
  simp only [List.cons_lt_cons_iff]
  by_cases h1 : a < b <;> by_cases h2 : a = b <;> by_cases h3 : x < y <;> simp [h1, h2, h3]
theorem less_asymm {a b : ByteArray} (h : Op.bytesLess a.toList b.toList = true) : Op.bytesLess b.toList a.toList = false := by
 rw [bytesLt] at h ⊢
 exact decide_eq_false (List.lt_asymm (of_decide_eq_true h))
theorem less_neq {a b : ByteArray} (h : Op.bytesLess a.toList b.toList = true) : (b.toList == a.toList) = false := by
 rw [bytesLt] at h
 exact beq_eq_false_iff_ne.2 (fun e => by rw [e] at h; exact List.lt_irrefl _ (of_decide_eq_true h))
theorem less_tri {a b : ByteArray} (h : Op.bytesLess a.toList b.toList = false) : ¬ ((!Op.bytesLess b.toList a.toList) = true ∧ (!b.toList == a.toList) = true) := by
 rw [bytesLt] at h
 rw [bytesLt]
 intro ⟨h1, h2⟩
 have h3 : ¬ a.toList < b.toList := of_decide_eq_false h
 have h4 : ¬ b.toList < a.toList := by simpa using h1
 have h5 : b.toList ≠ a.toList := by simpa using h2
 exact h5 (List.le_antisymm (List.not_lt.1 h3) (List.not_lt.1 h4))
theorem walk_arg {f : Nat} {a b : Value} {d d' : Int} {lo hi ha q : Value} {w : World} {post : Ending → World → Prop} (h : Calls Try.prog f #[a, b, .int .i64 d, lo, hi, ha, q] w post) (e : d' = d) : Calls Try.prog f #[a, b, .int .i64 d', lo, hi, ha, q] w post := by subst e; exact h
theorem walk_branch (AP : Option Addr) (cP : Nat) (pages : List ByteArray) (AL : Option Addr) (cL : Nat) (late : List S189) (w0 : World) (hP : Kd.C Kd.string w0 AP pages.length pages) (hcP : pages.length ≤ cP) (hL : Kd.C k189 w0 AL late.length late) (hcL : late.length ≤ cL) (rn : Int → S68 × Bool) (hrn : RnS pages late rn) (g : Nat) (st : TSt) (page deep : Int) (low high : ByteArray) (has : Bool) (w : World) (Ag : Option Addr) (cg : Nat) (Ap : Option Addr) (cp : Nat) (Ad : Option Addr) (cd : Nat) (hT : TInv cellsS 138 w0 w g (.slice Ag st.pg.length cg) (.slice Ap st.pr.length cp) (.slice Ad st.dp.length cd) st.order st.bad st.pg st.pr st.dp) (f N : Nat) (hrec : ∀ (s' : TSt) (kid : Int) (lo hi : ByteArray) (ha : Bool) (W : World) (Ag' : Option Addr) (cg' : Nat) (Ap' : Option Addr) (cp' : Nat) (Ad' : Option Addr) (cd' : Nat), s'.pg.length + N ≤ 1000000 → s'.pr.length + 4 * N ≤ 1000000 → s'.dp.length + N ≤ 1000000 → TInv cellsS 138 w0 W g (.slice Ag' s'.pg.length cg') (.slice Ap' s'.pr.length cp') (.slice Ad' s'.dp.length cd') s'.order s'.bad s'.pg s'.pr s'.dp →
   Calls Try.prog 140 #[.agg #[.slice AP pages.length cP, .slice AL late.length cL], .int .i64 kid, .int .i64 (deep + 1), .string lo, .string hi, .bool ha, .pointer (some ⟨g, 0, none⟩)] W (DownPost cellsS 138 w0 W g (.slice Ag' s'.pg.length cg') (.slice Ap' s'.pr.length cp') (.slice Ad' s'.dp.length cd') (sw rn f s' kid (deep + 1) lo hi ha)))
  (hlen : ∀ s' kid lo hi ha, (sw rn f s' kid (deep + 1) lo hi ha).pg.length ≤ s'.pg.length + N ∧ (sw rn f s' kid (deep + 1) lo hi ha).pr.length ≤ s'.pr.length + 4 * N ∧ (sw rn f s' kid (deep + 1) lo hi ha).dp.length ≤ s'.dp.length + N)
  (hbad : st.bad = false) (hok : (rn page).2 = true) (hd0 : 0 ≤ deep) (hd : deep < 8) (hcon : st.pg.contains page = false) (hleaf : (rn page).1.f0 = false) (hlg : st.pg.length + 1 + 4 * N ≤ 1000000) (hlp : st.pr.length + 4 * (4 * N) ≤ 1000000) (hld : st.dp.length + 4 * N ≤ 1000000) :
  Calls Try.prog 140 #[.agg #[.slice AP pages.length cP, .slice AL late.length cL], .int .i64 page, .int .i64 deep, .string low, .string high, .bool has, .pointer (some ⟨g, 0, none⟩)] w (DownPost cellsS 138 w0 w g (.slice Ag st.pg.length cg) (.slice Ap st.pr.length cp) (.slice Ad st.dp.length cd) (swKids (fun s k lo hi ha => sw rn f s k (deep + 1) lo hi ha) (rn page).1.f1 (rn page).1.f3 low high has 0 (rn page).1.f1.length ⟨st.pg ++ [page], st.pr, st.dp, st.order, st.bad⟩)) := by
 obtain ⟨s, ⟨k, hs⟩, hnode, hcase⟩ := hrn page
 have HS := Aside0.mk hs
 have HN := Aside0.mk hnode
 have HP := Aside0.mk hP
 have HL := Aside0.mk hL
 have HCASE := Aside0.mk hcase
 have HRN := Aside0.mk hrn
 have T0 := Aside0.mk hT
 obtain ⟨pg, pr, dp, order, bad⟩ := st
 obtain ⟨n, hn⟩ : ∃ n, (rn page).1 = n := ⟨_, rfl⟩
 obtain ⟨ok, hok⟩ : ∃ ok, (rn page).2 = ok := ⟨_, rfl⟩
 have HNN := Aside0.mk (And.intro hn hok)
 rw [hn, hok] at HN HCASE
 obtain ⟨leaf, keys, vals, kids⟩ := n
 simp only at T0
 clear hs hnode hP hL hcase hrn hT hn hok
 rw [HNN.out.1] at hleaf ⊢
 simp only at hbad hcon hlg hlp hld hleaf ⊢
 subst hleaf
 have HREC := Aside0.mk hrec
 have HLEN := Aside0.mk hlen
 have HWD := Aside0.mk (show wrap64 (deep + 1) = deep + 1 by unfold wrap64; omega)
 clear hrec hlen
 subst hbad
 rw [HNN.out.2] at hok
 subst hok
 have hd1 : decide (8 ≤ deep) = false := decide_eq_false (by omega)
 have hnk : nodeOkB false keys vals kids = true := by
  rcases HCASE.out with h | h
  ·exact h.2
  ·cases h.1
 obtain ⟨hshape, hcond⟩ := (nodeOk_iff _ _ _ _).1 hnk
 obtain ⟨kc, hkc⟩ := in_ev pg page false hcon (R_seen T0.out.rg).2.2.1
 have HKC := Aside0.mk hkc
 have HLG := Aside0.mk hlg
 have HLP := Aside0.mk hlp
 have HLD := Aside0.mk hld
 obtain ⟨ks1, hks⟩ : ∃ z, z = pg ++ [page] := ⟨_, rfl⟩
 have HKS1 := Aside0.mk hks
 clear hd hcon hkc hnk hlg hlp hld hks hcond
 have HVK := Aside0.mk (hshape.2.2 rfl).1
 have hkl : keys.length ≤ 4 := hshape.1.2
 clear hshape
 obtain ⟨RES, hres⟩ : ∃ z, z = swKids (fun s k lo hi ha => sw rn f s k (deep + 1) lo hi ha) keys kids low high has 0 keys.length ⟨ks1, pr, dp, order, false⟩ := ⟨_, rfl⟩
 have HRES := Aside0.mk hres
 rw [← HKS1.out, ← hres]
 clear hres
 go_enter Try.func140, Try.ntmps140
 go_upto_region 1 with (fail)
 have TA := Aside0.mk (T0.out.alloc (.cells #[.slice AP pages.length cP, .slice AL late.length cL] 41))
 have BA := Aside0.mk (blk_new w (.cells #[.slice AP pages.length cP, .slice AL late.length cL] 41))
 have HFA := Aside0.mk ((TFr.refl w g (.slice Ag pg.length cg) (.slice Ap pr.length cp) (.slice Ad dp.length cd)).below (below_alloc (Below.refl _ _) (.cells #[.slice AP pages.length cP, .slice AL late.length cL] 41)))
 have hsA := Aside0.mk (show w.heap.size ≤ w.heap.size from Nat.le_refl _)
 obtain ⟨gD, hgd⟩ : ∃ z, w.heap.size = z := ⟨_, rfl⟩
 generalize hwa : w.alloc (.cells #[.slice AP pages.length cP, .slice AL late.length cL] 41) = wA at TA BA HFA ⊢
 clear hwa T0
 rw [hgd] at BA ⊢
 have HGD := Aside0.mk hgd
 clear hgd hsA
 have hgD := blk_lt BA.out
 have hx0 : wA.cell? ⟨gD, 0, none⟩ = some (.slice AP pages.length cP) := (blk_cell BA.out 0).trans rfl
 have hx1 : wA.cell? ⟨gD, 1, none⟩ = some (.slice AL late.length cL) := (blk_cell BA.out 1).trans rfl
 go_wp2_with fail
 ((with_reducible refine (spec_ReadPage.calls k AP cP pages AL cL late page s _ (Kd.C_below HP.out TA.out.bel) hcP (Kd.C_below HL.out TA.out.bel) hcL HS.out).mono ?_); rintro e w1 ⟨rfl, hb1⟩)
 have T1 := Aside0.mk (TA.out.below hb1)
 have HB1 := Aside0.mk hb1
 clear hb1
 go_wp2_with fail
 ((with_reducible refine (HN.out _).mono ?_); rintro e w2 ⟨A1, c1, A2, c2, A3, c3, rfl, r1, r2, r3, hb2⟩)
 have T3 := Aside0.mk ((T1.out.below hb2).alloc (.cells #[.bool false, .slice A1 keys.length c1, .slice A2 vals.length c2, .slice A3 kids.length c3] 68))
 have HB2 := Aside0.mk (show Below wA.heap.size wA w2 from below_step HB1.out hb2)
 have BN := Aside0.mk (blk_new w2 (.cells #[.bool false, .slice A1 keys.length c1, .slice A2 vals.length c2, .slice A3 kids.length c3] 68))
 have BD := Aside0.mk (blk_below BA.out (below_alloc HB2.out (.cells #[.bool false, .slice A1 keys.length c1, .slice A2 vals.length c2, .slice A3 kids.length c3] 68)))
 have R1 := Aside0.mk (Kd.R_lower (base' := w0.heap.size) (Kd.R_below r1 (below_alloc (Below.refl _ _) (.cells #[.bool false, .slice A1 keys.length c1, .slice A2 vals.length c2, .slice A3 kids.length c3] 68))) T1.out.bel.size)
 have R2 := Aside0.mk (Kd.R_lower (base' := w0.heap.size) (Kd.R_below r2 (below_alloc (Below.refl _ _) (.cells #[.bool false, .slice A1 keys.length c1, .slice A2 vals.length c2, .slice A3 kids.length c3] 68))) T1.out.bel.size)
 have R3 := Aside0.mk (Kd.R_lower (base' := w0.heap.size) (Kd.R_below r3 (below_alloc (Below.refl _ _) (.cells #[.bool false, .slice A1 keys.length c1, .slice A2 vals.length c2, .slice A3 kids.length c3] 68))) T1.out.bel.size)
 have HF3 := Aside0.mk (HFA.out.below (below_alloc HB2.out (.cells #[.bool false, .slice A1 keys.length c1, .slice A2 vals.length c2, .slice A3 kids.length c3] 68)))
 have HNE := Aside0.mk (show NeRow (.slice A1 keys.length c1) (.slice Ag pg.length cg) ∧ NeRow (.slice A3 kids.length c3) (.slice Ag pg.length cg) ∧ NeRow (.slice A3 kids.length c3) (.slice Ad dp.length cd) from ⟨ne_fresh r1 T1.out.rg, ne_fresh r3 T1.out.rg, ne_fresh r3 T1.out.rd⟩)
 clear r1 r2 r3 hb2 T1 TA BA HFA hx0 hx1
 go_upto_region 2 with (fail)
 have hgN := Aside0.mk (blk_lt BN.out)
 generalize hw3 : w2.alloc (.cells #[.bool false, .slice A1 keys.length c1, .slice A2 vals.length c2, .slice A3 kids.length c3] 68) = w3 at T3 BN BD R1 R2 R3 HF3 hgN ⊢
 clear hw3 HB1 HB2
 obtain ⟨gN, hgn⟩ : ∃ gN, w2.heap.size = gN := ⟨_, rfl⟩
 rw [hgn] at BN hgN ⊢
 clear hgn hgD
 have hgl := blk_lt T3.out.bT
 have hf2 := blk_frozen T3.out.bT
 have hd0 : w3.cell? ⟨g, 1, none⟩ = some (.slice Ag pg.length cg) := (blk_cell T3.out.bT 1).trans rfl
 have hd3 : w3.cell? ⟨g, 3, none⟩ = some (.bool false) := (blk_cell T3.out.bT 3).trans rfl
 go_wp2_with fail
 ((with_reducible refine (spec_l06In.calls kc Ag cg pg page false _ (R_seen T3.out.rg).2 (R_seen T3.out.rg).1 HKC.out).mono ?_); rintro e w4 ⟨rfl, nd4, rfl⟩)
 have T4 := Aside0.mk (T3.out.below (Drawn0.below ⟨nd4, rfl⟩))
 have BN4 := Aside0.mk (blk_below BN.out (Drawn0.below ⟨nd4, rfl⟩))
 have BD4 := Aside0.mk (blk_below BD.out (Drawn0.below ⟨nd4, rfl⟩))
 have R14 := Aside0.mk (Kd.R_below R1.out (Drawn0.below ⟨nd4, rfl⟩))
 have R24 := Aside0.mk (Kd.R_below R2.out (Drawn0.below ⟨nd4, rfl⟩))
 have R34 := Aside0.mk (Kd.R_below R3.out (Drawn0.below ⟨nd4, rfl⟩))
 have HF4 := Aside0.mk (HF3.out.below (Drawn0.below ⟨nd4, rfl⟩))
 clear T3 BN BD R1 R2 R3 HF3
 generalize w3.drewN nd4 = w4 at T4 BN4 BD4 R14 R24 R34 HF4 ⊢
 have hgl4 := blk_lt T4.out.bT
 have hd14 : w4.cell? ⟨g, 1, none⟩ = some (.slice Ag pg.length cg) := (blk_cell T4.out.bT 1).trans rfl
 have hd34 : w4.cell? ⟨g, 3, none⟩ = some (.bool false) := (blk_cell T4.out.bT 3).trans rfl
 clear hf2 hd0 hd3 hgl
 go_upto_region 5 with (((with_reducible refine gate_builtin (b := .append) (xs := #[.tmp 55, .tmp 57]) rfl ?_); at_builtin; refine Kd.R_append (Kd.int .i64) (w0 := w0) w0.heap.size rfl (.tmp 55) (.tmp 57) 30 3 (.int .i64 0) 8 rfl Try.underlying30 info3d rfl (by decide) (by omega) (.slice Ag pg.length cg) pg page [.int .i64 page] (fun _ => True) (fun _ => False) rfl rfl ?aP (fun _ hk => hk.elim) ?aF ?aO ?aB ?aS ?aL ?_; (case aP => exact rfl); (case aF => exact (fun _ _ => trivial)); (case aO => exact T4.out.rg); (case aB => exact T4.out.bel); (case aS => exact T4.out.bel.size); (case aL => have := HLG.out; omega); intro va wa ho hb hgr hat; rw [← HKS1.out] at ho; obtain ⟨Ao1, co1, eo⟩ := Kd.R_slice ho; subst eo; have ba := Aside0.mk (blk_grown T4.out.bT hgr (Kd.R_ne T4.out.rg T4.out.bT (by decide))); have hsa : wa.cell? ⟨g, 1, none⟩ = some (.slice Ag pg.length cg) := (blk_cell ba.out 1).trans rfl; have hfa := blk_frozen ba.out; have hla := blk_lt ba.out; have TT := Aside0.mk (T4.out.pushPg layS (by decide) ho hb hgr hat); clear ho hb hgr hat))
 clear hsa hfa hla ba hd14 hd34 hgl4
 generalize hwx : wa.setCell ⟨g, 1, none⟩ _ = w5 at TT ⊢
 clear hwx
 obtain ⟨TT1, TT2⟩ := TT.out
 have T5 := Aside0.mk TT1
 have HF5 := Aside0.mk (HF4.out.trans TT2)
 have BN5 := Aside0.mk (blk_fr TT2 T4.out BN4.out (by decide))
 have BD5 := Aside0.mk (blk_fr TT2 T4.out BD4.out (by decide))
 have R15 := Aside0.mk (R9_fr TT2 T4.out (by decide) R14.out)
 have R25 := Aside0.mk (R9_fr TT2 T4.out (by decide) R24.out)
 have R35 := Aside0.mk (R3_fr TT2 T4.out (by decide) R34.out HNE.out.2.1 HNE.out.2.2)
 clear TT TT1 TT2 T4 BN4 BD4 R14 R24 R34 HF4
 go_wp2_with fail
 go_loopg [16] keys.length (fun gg s16 wr => ∃ (kk : Nat) (sti : TSt) (Agk : Option Addr) (cgk : Nat) (Apk : Option Addr) (cpk : Nat) (Adk : Option Addr) (cdk : Nat), kk ≤ keys.length ∧ keys.length - kk ≤ gg ∧ s16 = .int .i64 kk ∧ Aside0 (TInv cellsS 138 w0 wr g (.slice Agk sti.pg.length cgk) (.slice Apk sti.pr.length cpk) (.slice Adk sti.dp.length cdk) sti.order sti.bad sti.pg sti.pr sti.dp) ∧ Aside0 (wr.heap[gN]? = some (.cells #[.bool false, .slice A1 keys.length c1, .slice A2 vals.length c2, .slice A3 kids.length c3] 68 (0, 0))) ∧ Aside0 (wr.heap[gD]? = some (.cells #[.slice AP pages.length cP, .slice AL late.length cL] 41 (0, 0))) ∧
   Aside0 (Kd.R Kd.string 9 wr w0.heap.size (fun _ => True) (.slice A1 keys.length c1) keys) ∧ Aside0 (Kd.R (Kd.int .i64) 3 wr w0.heap.size (fun _ => True) (.slice A3 kids.length c3) kids ∧ NeRow (.slice A3 kids.length c3) (.slice Agk sti.pg.length cgk) ∧ NeRow (.slice A3 kids.length c3) (.slice Adk sti.dp.length cdk)) ∧ Aside0 (TFr w wr g (.slice Ag pg.length cg) (.slice Ap pr.length cp) (.slice Ad dp.length cd) (.slice Agk sti.pg.length cgk) (.slice Apk sti.pr.length cpk) (.slice Adk sti.dp.length cdk)) ∧
   Aside0 (swKids (fun s k lo hi ha => sw rn f s k (deep + 1) lo hi ha) keys kids low high has kk (keys.length - kk) sti = RES) ∧ Aside0 (sti.pg.length ≤ pg.length + 1 + kk * N ∧ sti.pr.length ≤ pr.length + kk * (4 * N) ∧ sti.dp.length ≤ dp.length + kk * N))
 case atStart =>
  exact ⟨0, ⟨ks1, pr, dp, order, false⟩, Ao1, co1, Ap, cp, Ad, cd, Nat.zero_le _, by omega, rfl, T5, BN5, BD5, R15, R35, HF5, ⟨HRES.out.symm⟩, ⟨by show ks1.length ≤ _; rw [HKS1.out]; simp, by simp, by simp⟩⟩
 case round =>
  clear T5 BN5 BD5 R15 R25 R35 HF5
  obtain ⟨kk, sti, Agk, cgk, Apk, cpk, Adk, cdk, hkk, hgg, rfl, TK, BNK, BDK, R1K, R3K, HFK, HRK, HLK⟩ := hrel
  by_cases hlt : kk < keys.length
  ·have hltz : (kk : Int) < (keys.length : Int) := by omega
   have hlk : kk < kids.length := by have := HVK.out; omega
   have hlkz : (kk : Int) < (kids.length : Int) := by omega
   obtain ⟨ad1, rfl⟩ := some_ad R1K.out (by omega)
   obtain ⟨ad3, rfl⟩ := some_ad R3K.out.1 (by omega)
   have hk1 := seen_str R1K.out hlt
   obtain ⟨key, hkey⟩ : ∃ key, keys[kk] = key := ⟨_, rfl⟩
   obtain ⟨kid, hkid⟩ : ∃ kid, kids[kk] = kid := ⟨_, rfl⟩
   rw [hkey] at hk1
   have HKEY := Aside0.mk (show keys.getD kk ByteArray.empty = key by rw [List.getD_eq_getElem?_getD, List.getElem?_eq_getElem hlt, Option.getD_some, hkey])
   have HKID := Aside0.mk (show kids.getD kk 0 = kid by rw [List.getD_eq_getElem?_getD, List.getElem?_eq_getElem hlk, Option.getD_some, hkid])
   have HKID2 := Aside0.mk hkid
   obtain ⟨pgi, pri, dpi, ordi, badi⟩ := sti
   simp only at TK R3K HFK HLK
   obtain ⟨hm2, hm3, hm4⟩ := HLK.out
   have hkN : kk * N ≤ 3 * N := Nat.mul_le_mul_right _ (by omega)
   have hkN4 : kk * (4 * N) ≤ 3 * (4 * N) := Nat.mul_le_mul_right _ (by omega)
   have hq1 : pgi.length + N ≤ 1000000 := by have := HLG.out; omega
   have hq2 : pri.length + 4 * N ≤ 1000000 := by have := HLP.out; omega
   have hq3 : dpi.length + N ≤ 1000000 := by have := HLD.out; omega
   have HQ := Aside0.mk (And.intro hq1 (And.intro hq2 hq3))
   have HSTEP := Aside0.mk (show swKids (fun s k lo hi ha => sw rn f s k (deep + 1) lo hi ha) keys kids low high has (kk + 1) (keys.length - (kk + 1)) (sw rn f ⟨pgi, pri, dpi, ordi, badi⟩ kid (deep + 1) (leastB low key) (nextB keys high has kk) (has || moreB keys high has kk)) = RES by
    rw [← HRK.out, show keys.length - kk = keys.length - (kk + 1) + 1 by omega, swKids, HKID.out, HKEY.out])
   obtain ⟨m, hm⟩ : ∃ m, m = kk + 1 := ⟨_, rfl⟩
   have HM := Aside0.mk hm
   have hw1 : wrap64 ((kk : Int) + 1) = (m : Int) := by unfold wrap64; omega
   have hw2 : IntKind.i64.wrap ((kk : Int) + 1) = (m : Int) := (i64_w _).trans hw1
   have hn1 : wr.cell? ⟨gN, 1, none⟩ = some (.slice (some ad1) keys.length c1) := (blk_cell BNK.out 1).trans rfl
   have hn0 : wr.cell? ⟨gN, 0, none⟩ = some (.bool false) := (blk_cell BNK.out 0).trans rfl
   clear hkey hkid hm2 hm3 hm4 hkN hkN4 hq1 hq2 hq3 HRK hm
   cases hless : Op.bytesLess low.toList key.toList with
   | true =>
    have HLE := Aside0.mk (show leastB low key = key by unfold leastB; rw [hless]; exact if_pos rfl)
    have hgt1 : Op.bytesLess key.toList low.toList = false := less_asymm hless
    have hgt2 : (key.toList == low.toList) = false := less_neq hless
    have HLS := Aside0.mk hless
    clear hless
    by_cases hnx : m < keys.length
    ·have hnxz : (m : Int) < (keys.length : Int) := by omega
     have hk2 := seen_str R1K.out hnx
     obtain ⟨nx, hnxt⟩ : ∃ nx, keys[m] = nx := ⟨_, rfl⟩
     rw [hnxt] at hk2
     have HNEXT := Aside0.mk (show keys.getD (kk + 1) ByteArray.empty = nx by rw [← HM.out, List.getD_eq_getElem?_getD, List.getElem?_eq_getElem hnx, Option.getD_some, hnxt])
     clear hnxt
     cases has with
     | false =>
      have HMORE := Aside0.mk (show moreB keys high false kk = true by unfold moreB; rw [← HM.out, decide_eq_true hnx]; rfl)
      go_upto_region 21 with (fail)
      have HMO := Aside0.mk (show nextB keys high false kk = nx ∧ (false || moreB keys high false kk) = true by unfold nextB; rw [HMORE.out]; exact ⟨(if_pos rfl).trans HNEXT.out, rfl⟩)
      refine tail21 (sn := sw rn f ⟨pgi, pri, dpi, ordi, badi⟩ kid (deep + 1) key nx true) (fun _ _ _ _ h => h) TK.out BNK.out BDK.out R1K.out R3K.out hlk hlkz HKID2.out HFK.out (fun W hW => walk_arg (HREC.out ⟨pgi, pri, dpi, ordi, badi⟩ kid key nx true W Agk cgk Apk cpk Adk cdk HQ.out.1 HQ.out.2.1 HQ.out.2.2 hW) HWD.out) ?_
      intro w6 Agn cgn Apn cpn Adn cdn _ _ _ _ _ _ _ _ _ _ _ _ _ tn bn bb r1 r3 fn
      have HLN := HLEN.out ⟨pgi, pri, dpi, ordi, badi⟩ kid key nx true
      rw [HLE.out, HMO.out.1, HMO.out.2] at HSTEP
      generalize sw rn f ⟨pgi, pri, dpi, ordi, badi⟩ kid (deep + 1) key nx true = sn at tn r3 fn HLN HSTEP
      obtain ⟨pgn, prn, dpn, ordn, badn⟩ := sn
      simp only at tn r3 fn HLN
      have TN := Aside0.mk tn
      have BN := Aside0.mk bn
      have BB := Aside0.mk bb
      have R1 := Aside0.mk r1
      have R3 := Aside0.mk r3
      have FN := Aside0.mk fn
      have HL := Aside0.mk HLN
      clear tn bn bb r1 r3 fn HLN hn1 hn0 hk1 TK BNK BDK R1K R3K HFK
      go_wp2
      have HW1 := Aside0.mk hw1
      clear hw1 hw2
      go_roundg (keys.length - m)
      case measure => have := HM.out; omega
      case rel =>
       have hln := HL.out
       have hml := HLK.out
       have hmm := HM.out
       subst hmm
       have e1 : (kk + 1) * N = kk * N + N := Nat.succ_mul _ _
       have e2 : (kk + 1) * (4 * N) = kk * (4 * N) + 4 * N := Nat.succ_mul _ _
       exact ⟨kk + 1, ⟨pgn, prn, dpn, ordn, badn⟩, Agn, cgn, Apn, cpn, Adn, cdn, by omega, by omega, by first | rfl | exact congrArg (Value.int .i64) HW1.out, TN, BN, BB, R1, R3, FN, HSTEP, ⟨by show pgn.length ≤ _; rw [e1]; omega, by show prn.length ≤ _; rw [e2]; omega, by show dpn.length ≤ _; rw [e1]; omega⟩⟩
     | true =>
      cases hb2 : Op.bytesLess nx.toList high.toList with
      | true =>
       have HMORE := Aside0.mk (show moreB keys high true kk = true by unfold moreB; rw [HNEXT.out, ← HM.out, decide_eq_true hnx, hb2]; rfl)
       go_upto_region 21 with (fail)
       have HMO := Aside0.mk (show nextB keys high true kk = nx ∧ (true || moreB keys high true kk) = true by unfold nextB; rw [HMORE.out]; exact ⟨(if_pos rfl).trans HNEXT.out, rfl⟩)
       refine tail21 (sn := sw rn f ⟨pgi, pri, dpi, ordi, badi⟩ kid (deep + 1) key nx true) (fun _ _ _ _ h => h) TK.out BNK.out BDK.out R1K.out R3K.out hlk hlkz HKID2.out HFK.out (fun W hW => walk_arg (HREC.out ⟨pgi, pri, dpi, ordi, badi⟩ kid key nx true W Agk cgk Apk cpk Adk cdk HQ.out.1 HQ.out.2.1 HQ.out.2.2 hW) HWD.out) ?_
       intro w6 Agn cgn Apn cpn Adn cdn _ _ _ _ _ _ _ _ _ _ _ _ _ tn bn bb r1 r3 fn
       have HLN := HLEN.out ⟨pgi, pri, dpi, ordi, badi⟩ kid key nx true
       rw [HLE.out, HMO.out.1, HMO.out.2] at HSTEP
       generalize sw rn f ⟨pgi, pri, dpi, ordi, badi⟩ kid (deep + 1) key nx true = sn at tn r3 fn HLN HSTEP
       obtain ⟨pgn, prn, dpn, ordn, badn⟩ := sn
       simp only at tn r3 fn HLN
       have TN := Aside0.mk tn
       have BN := Aside0.mk bn
       have BB := Aside0.mk bb
       have R1 := Aside0.mk r1
       have R3 := Aside0.mk r3
       have FN := Aside0.mk fn
       have HL := Aside0.mk HLN
       clear tn bn bb r1 r3 fn HLN hn1 hn0 hk1 TK BNK BDK R1K R3K HFK
       go_wp2
       have HW1 := Aside0.mk hw1
       clear hw1 hw2
       go_roundg (keys.length - m)
       case measure => have := HM.out; omega
       case rel =>
        have hln := HL.out
        have hml := HLK.out
        have hmm := HM.out
        subst hmm
        have e1 : (kk + 1) * N = kk * N + N := Nat.succ_mul _ _
        have e2 : (kk + 1) * (4 * N) = kk * (4 * N) + 4 * N := Nat.succ_mul _ _
        exact ⟨kk + 1, ⟨pgn, prn, dpn, ordn, badn⟩, Agn, cgn, Apn, cpn, Adn, cdn, by omega, by omega, by first | rfl | exact congrArg (Value.int .i64) HW1.out, TN, BN, BB, R1, R3, FN, HSTEP, ⟨by show pgn.length ≤ _; rw [e1]; omega, by show prn.length ≤ _; rw [e2]; omega, by show dpn.length ≤ _; rw [e1]; omega⟩⟩
      | false =>
       have HMORE := Aside0.mk (show moreB keys high true kk = false by unfold moreB; rw [HNEXT.out, ← HM.out, decide_eq_true hnx, hb2]; rfl)
       go_upto_region 21 with (fail)
       have HMO := Aside0.mk (show nextB keys high true kk = high ∧ (true || moreB keys high true kk) = true by unfold nextB; rw [HMORE.out]; exact ⟨if_neg (by simp), rfl⟩)
       refine tail21 (sn := sw rn f ⟨pgi, pri, dpi, ordi, badi⟩ kid (deep + 1) key high true) (fun _ _ _ _ h => h) TK.out BNK.out BDK.out R1K.out R3K.out hlk hlkz HKID2.out HFK.out (fun W hW => walk_arg (HREC.out ⟨pgi, pri, dpi, ordi, badi⟩ kid key high true W Agk cgk Apk cpk Adk cdk HQ.out.1 HQ.out.2.1 HQ.out.2.2 hW) HWD.out) ?_
       intro w6 Agn cgn Apn cpn Adn cdn _ _ _ _ _ _ _ _ _ _ _ _ _ tn bn bb r1 r3 fn
       have HLN := HLEN.out ⟨pgi, pri, dpi, ordi, badi⟩ kid key high true
       rw [HLE.out, HMO.out.1, HMO.out.2] at HSTEP
       generalize sw rn f ⟨pgi, pri, dpi, ordi, badi⟩ kid (deep + 1) key high true = sn at tn r3 fn HLN HSTEP
       obtain ⟨pgn, prn, dpn, ordn, badn⟩ := sn
       simp only at tn r3 fn HLN
       have TN := Aside0.mk tn
       have BN := Aside0.mk bn
       have BB := Aside0.mk bb
       have R1 := Aside0.mk r1
       have R3 := Aside0.mk r3
       have FN := Aside0.mk fn
       have HL := Aside0.mk HLN
       clear tn bn bb r1 r3 fn HLN hn1 hn0 hk1 TK BNK BDK R1K R3K HFK
       go_wp2
       have HW1 := Aside0.mk hw1
       clear hw1 hw2
       go_roundg (keys.length - m)
       case measure => have := HM.out; omega
       case rel =>
        have hln := HL.out
        have hml := HLK.out
        have hmm := HM.out
        subst hmm
        have e1 : (kk + 1) * N = kk * N + N := Nat.succ_mul _ _
        have e2 : (kk + 1) * (4 * N) = kk * (4 * N) + 4 * N := Nat.succ_mul _ _
        exact ⟨kk + 1, ⟨pgn, prn, dpn, ordn, badn⟩, Agn, cgn, Apn, cpn, Adn, cdn, by omega, by omega, by first | rfl | exact congrArg (Value.int .i64) HW1.out, TN, BN, BB, R1, R3, FN, HSTEP, ⟨by show pgn.length ≤ _; rw [e1]; omega, by show prn.length ≤ _; rw [e2]; omega, by show dpn.length ≤ _; rw [e1]; omega⟩⟩
    ·have hnxz : ¬ (m : Int) < (keys.length : Int) := by omega
     have HMORE := Aside0.mk (show moreB keys high has kk = false by unfold moreB; rw [← HM.out, decide_eq_false hnx]; rfl)
     go_upto_region 21 with (fail)
     have HMO := Aside0.mk (show nextB keys high has kk = high ∧ (has || moreB keys high has kk) = has by unfold nextB; rw [HMORE.out]; exact ⟨if_neg (by simp), by simp⟩)
     refine tail21 (sn := sw rn f ⟨pgi, pri, dpi, ordi, badi⟩ kid (deep + 1) key high has) (fun _ _ _ _ h => h) TK.out BNK.out BDK.out R1K.out R3K.out hlk hlkz HKID2.out HFK.out (fun W hW => walk_arg (HREC.out ⟨pgi, pri, dpi, ordi, badi⟩ kid key high has W Agk cgk Apk cpk Adk cdk HQ.out.1 HQ.out.2.1 HQ.out.2.2 hW) HWD.out) ?_
     intro w6 Agn cgn Apn cpn Adn cdn _ _ _ _ _ _ _ _ _ _ _ _ _ tn bn bb r1 r3 fn
     have HLN := HLEN.out ⟨pgi, pri, dpi, ordi, badi⟩ kid key high has
     rw [HLE.out, HMO.out.1, HMO.out.2] at HSTEP
     generalize sw rn f ⟨pgi, pri, dpi, ordi, badi⟩ kid (deep + 1) key high has = sn at tn r3 fn HLN HSTEP
     obtain ⟨pgn, prn, dpn, ordn, badn⟩ := sn
     simp only at tn r3 fn HLN
     have TN := Aside0.mk tn
     have BN := Aside0.mk bn
     have BB := Aside0.mk bb
     have R1 := Aside0.mk r1
     have R3 := Aside0.mk r3
     have FN := Aside0.mk fn
     have HL := Aside0.mk HLN
     clear tn bn bb r1 r3 fn HLN hn1 hn0 hk1 TK BNK BDK R1K R3K HFK
     go_wp2
     have HW1 := Aside0.mk hw1
     clear hw1 hw2
     go_roundg (keys.length - m)
     case measure => have := HM.out; omega
     case rel =>
      have hln := HL.out
      have hml := HLK.out
      have hmm := HM.out
      subst hmm
      have e1 : (kk + 1) * N = kk * N + N := Nat.succ_mul _ _
      have e2 : (kk + 1) * (4 * N) = kk * (4 * N) + 4 * N := Nat.succ_mul _ _
      exact ⟨kk + 1, ⟨pgn, prn, dpn, ordn, badn⟩, Agn, cgn, Apn, cpn, Adn, cdn, by omega, by omega, by first | rfl | exact congrArg (Value.int .i64) HW1.out, TN, BN, BB, R1, R3, FN, HSTEP, ⟨by show pgn.length ≤ _; rw [e1]; omega, by show prn.length ≤ _; rw [e2]; omega, by show dpn.length ≤ _; rw [e1]; omega⟩⟩
   | false =>
    have HLE := Aside0.mk (show leastB low key = low by unfold leastB; rw [hless]; exact if_neg (by simp))
    have hgt : ¬ ((!Op.bytesLess key.toList low.toList) = true ∧ (!key.toList == low.toList) = true) := less_tri hless
    have HLS := Aside0.mk hless
    clear hless
    by_cases hnx : m < keys.length
    ·have hnxz : (m : Int) < (keys.length : Int) := by omega
     have hk2 := seen_str R1K.out hnx
     obtain ⟨nx, hnxt⟩ : ∃ nx, keys[m] = nx := ⟨_, rfl⟩
     rw [hnxt] at hk2
     have HNEXT := Aside0.mk (show keys.getD (kk + 1) ByteArray.empty = nx by rw [← HM.out, List.getD_eq_getElem?_getD, List.getElem?_eq_getElem hnx, Option.getD_some, hnxt])
     clear hnxt
     cases has with
     | false =>
      have HMORE := Aside0.mk (show moreB keys high false kk = true by unfold moreB; rw [← HM.out, decide_eq_true hnx]; rfl)
      go_upto_region 21 with (fail)
      have HMO := Aside0.mk (show nextB keys high false kk = nx ∧ (false || moreB keys high false kk) = true by unfold nextB; rw [HMORE.out]; exact ⟨(if_pos rfl).trans HNEXT.out, rfl⟩)
      refine tail21 (sn := sw rn f ⟨pgi, pri, dpi, ordi, badi⟩ kid (deep + 1) low nx true) (fun _ _ _ _ h => h) TK.out BNK.out BDK.out R1K.out R3K.out hlk hlkz HKID2.out HFK.out (fun W hW => walk_arg (HREC.out ⟨pgi, pri, dpi, ordi, badi⟩ kid low nx true W Agk cgk Apk cpk Adk cdk HQ.out.1 HQ.out.2.1 HQ.out.2.2 hW) HWD.out) ?_
      intro w6 Agn cgn Apn cpn Adn cdn _ _ _ _ _ _ _ _ _ _ _ _ _ tn bn bb r1 r3 fn
      have HLN := HLEN.out ⟨pgi, pri, dpi, ordi, badi⟩ kid low nx true
      rw [HLE.out, HMO.out.1, HMO.out.2] at HSTEP
      generalize sw rn f ⟨pgi, pri, dpi, ordi, badi⟩ kid (deep + 1) low nx true = sn at tn r3 fn HLN HSTEP
      obtain ⟨pgn, prn, dpn, ordn, badn⟩ := sn
      simp only at tn r3 fn HLN
      have TN := Aside0.mk tn
      have BN := Aside0.mk bn
      have BB := Aside0.mk bb
      have R1 := Aside0.mk r1
      have R3 := Aside0.mk r3
      have FN := Aside0.mk fn
      have HL := Aside0.mk HLN
      clear tn bn bb r1 r3 fn HLN hn1 hn0 hk1 TK BNK BDK R1K R3K HFK
      go_wp2
      have HW1 := Aside0.mk hw1
      clear hw1 hw2
      go_roundg (keys.length - m)
      case measure => have := HM.out; omega
      case rel =>
       have hln := HL.out
       have hml := HLK.out
       have hmm := HM.out
       subst hmm
       have e1 : (kk + 1) * N = kk * N + N := Nat.succ_mul _ _
       have e2 : (kk + 1) * (4 * N) = kk * (4 * N) + 4 * N := Nat.succ_mul _ _
       exact ⟨kk + 1, ⟨pgn, prn, dpn, ordn, badn⟩, Agn, cgn, Apn, cpn, Adn, cdn, by omega, by omega, by first | rfl | exact congrArg (Value.int .i64) HW1.out, TN, BN, BB, R1, R3, FN, HSTEP, ⟨by show pgn.length ≤ _; rw [e1]; omega, by show prn.length ≤ _; rw [e2]; omega, by show dpn.length ≤ _; rw [e1]; omega⟩⟩
     | true =>
      cases hb2 : Op.bytesLess nx.toList high.toList with
      | true =>
       have HMORE := Aside0.mk (show moreB keys high true kk = true by unfold moreB; rw [HNEXT.out, ← HM.out, decide_eq_true hnx, hb2]; rfl)
       go_upto_region 21 with (fail)
       have HMO := Aside0.mk (show nextB keys high true kk = nx ∧ (true || moreB keys high true kk) = true by unfold nextB; rw [HMORE.out]; exact ⟨(if_pos rfl).trans HNEXT.out, rfl⟩)
       refine tail21 (sn := sw rn f ⟨pgi, pri, dpi, ordi, badi⟩ kid (deep + 1) low nx true) (fun _ _ _ _ h => h) TK.out BNK.out BDK.out R1K.out R3K.out hlk hlkz HKID2.out HFK.out (fun W hW => walk_arg (HREC.out ⟨pgi, pri, dpi, ordi, badi⟩ kid low nx true W Agk cgk Apk cpk Adk cdk HQ.out.1 HQ.out.2.1 HQ.out.2.2 hW) HWD.out) ?_
       intro w6 Agn cgn Apn cpn Adn cdn _ _ _ _ _ _ _ _ _ _ _ _ _ tn bn bb r1 r3 fn
       have HLN := HLEN.out ⟨pgi, pri, dpi, ordi, badi⟩ kid low nx true
       rw [HLE.out, HMO.out.1, HMO.out.2] at HSTEP
       generalize sw rn f ⟨pgi, pri, dpi, ordi, badi⟩ kid (deep + 1) low nx true = sn at tn r3 fn HLN HSTEP
       obtain ⟨pgn, prn, dpn, ordn, badn⟩ := sn
       simp only at tn r3 fn HLN
       have TN := Aside0.mk tn
       have BN := Aside0.mk bn
       have BB := Aside0.mk bb
       have R1 := Aside0.mk r1
       have R3 := Aside0.mk r3
       have FN := Aside0.mk fn
       have HL := Aside0.mk HLN
       clear tn bn bb r1 r3 fn HLN hn1 hn0 hk1 TK BNK BDK R1K R3K HFK
       go_wp2
       have HW1 := Aside0.mk hw1
       clear hw1 hw2
       go_roundg (keys.length - m)
       case measure => have := HM.out; omega
       case rel =>
        have hln := HL.out
        have hml := HLK.out
        have hmm := HM.out
        subst hmm
        have e1 : (kk + 1) * N = kk * N + N := Nat.succ_mul _ _
        have e2 : (kk + 1) * (4 * N) = kk * (4 * N) + 4 * N := Nat.succ_mul _ _
        exact ⟨kk + 1, ⟨pgn, prn, dpn, ordn, badn⟩, Agn, cgn, Apn, cpn, Adn, cdn, by omega, by omega, by first | rfl | exact congrArg (Value.int .i64) HW1.out, TN, BN, BB, R1, R3, FN, HSTEP, ⟨by show pgn.length ≤ _; rw [e1]; omega, by show prn.length ≤ _; rw [e2]; omega, by show dpn.length ≤ _; rw [e1]; omega⟩⟩
      | false =>
       have HMORE := Aside0.mk (show moreB keys high true kk = false by unfold moreB; rw [HNEXT.out, ← HM.out, decide_eq_true hnx, hb2]; rfl)
       go_upto_region 21 with (fail)
       have HMO := Aside0.mk (show nextB keys high true kk = high ∧ (true || moreB keys high true kk) = true by unfold nextB; rw [HMORE.out]; exact ⟨if_neg (by simp), rfl⟩)
       refine tail21 (sn := sw rn f ⟨pgi, pri, dpi, ordi, badi⟩ kid (deep + 1) low high true) (fun _ _ _ _ h => h) TK.out BNK.out BDK.out R1K.out R3K.out hlk hlkz HKID2.out HFK.out (fun W hW => walk_arg (HREC.out ⟨pgi, pri, dpi, ordi, badi⟩ kid low high true W Agk cgk Apk cpk Adk cdk HQ.out.1 HQ.out.2.1 HQ.out.2.2 hW) HWD.out) ?_
       intro w6 Agn cgn Apn cpn Adn cdn _ _ _ _ _ _ _ _ _ _ _ _ _ tn bn bb r1 r3 fn
       have HLN := HLEN.out ⟨pgi, pri, dpi, ordi, badi⟩ kid low high true
       rw [HLE.out, HMO.out.1, HMO.out.2] at HSTEP
       generalize sw rn f ⟨pgi, pri, dpi, ordi, badi⟩ kid (deep + 1) low high true = sn at tn r3 fn HLN HSTEP
       obtain ⟨pgn, prn, dpn, ordn, badn⟩ := sn
       simp only at tn r3 fn HLN
       have TN := Aside0.mk tn
       have BN := Aside0.mk bn
       have BB := Aside0.mk bb
       have R1 := Aside0.mk r1
       have R3 := Aside0.mk r3
       have FN := Aside0.mk fn
       have HL := Aside0.mk HLN
       clear tn bn bb r1 r3 fn HLN hn1 hn0 hk1 TK BNK BDK R1K R3K HFK
       go_wp2
       have HW1 := Aside0.mk hw1
       clear hw1 hw2
       go_roundg (keys.length - m)
       case measure => have := HM.out; omega
       case rel =>
        have hln := HL.out
        have hml := HLK.out
        have hmm := HM.out
        subst hmm
        have e1 : (kk + 1) * N = kk * N + N := Nat.succ_mul _ _
        have e2 : (kk + 1) * (4 * N) = kk * (4 * N) + 4 * N := Nat.succ_mul _ _
        exact ⟨kk + 1, ⟨pgn, prn, dpn, ordn, badn⟩, Agn, cgn, Apn, cpn, Adn, cdn, by omega, by omega, by first | rfl | exact congrArg (Value.int .i64) HW1.out, TN, BN, BB, R1, R3, FN, HSTEP, ⟨by show pgn.length ≤ _; rw [e1]; omega, by show prn.length ≤ _; rw [e2]; omega, by show dpn.length ≤ _; rw [e1]; omega⟩⟩
    ·have hnxz : ¬ (m : Int) < (keys.length : Int) := by omega
     have HMORE := Aside0.mk (show moreB keys high has kk = false by unfold moreB; rw [← HM.out, decide_eq_false hnx]; rfl)
     go_upto_region 21 with (fail)
     have HMO := Aside0.mk (show nextB keys high has kk = high ∧ (has || moreB keys high has kk) = has by unfold nextB; rw [HMORE.out]; exact ⟨if_neg (by simp), by simp⟩)
     refine tail21 (sn := sw rn f ⟨pgi, pri, dpi, ordi, badi⟩ kid (deep + 1) low high has) (fun _ _ _ _ h => h) TK.out BNK.out BDK.out R1K.out R3K.out hlk hlkz HKID2.out HFK.out (fun W hW => walk_arg (HREC.out ⟨pgi, pri, dpi, ordi, badi⟩ kid low high has W Agk cgk Apk cpk Adk cdk HQ.out.1 HQ.out.2.1 HQ.out.2.2 hW) HWD.out) ?_
     intro w6 Agn cgn Apn cpn Adn cdn _ _ _ _ _ _ _ _ _ _ _ _ _ tn bn bb r1 r3 fn
     have HLN := HLEN.out ⟨pgi, pri, dpi, ordi, badi⟩ kid low high has
     rw [HLE.out, HMO.out.1, HMO.out.2] at HSTEP
     generalize sw rn f ⟨pgi, pri, dpi, ordi, badi⟩ kid (deep + 1) low high has = sn at tn r3 fn HLN HSTEP
     obtain ⟨pgn, prn, dpn, ordn, badn⟩ := sn
     simp only at tn r3 fn HLN
     have TN := Aside0.mk tn
     have BN := Aside0.mk bn
     have BB := Aside0.mk bb
     have R1 := Aside0.mk r1
     have R3 := Aside0.mk r3
     have FN := Aside0.mk fn
     have HL := Aside0.mk HLN
     clear tn bn bb r1 r3 fn HLN hn1 hn0 hk1 TK BNK BDK R1K R3K HFK
     go_wp2
     have HW1 := Aside0.mk hw1
     clear hw1 hw2
     go_roundg (keys.length - m)
     case measure => have := HM.out; omega
     case rel =>
      have hln := HL.out
      have hml := HLK.out
      have hmm := HM.out
      subst hmm
      have e1 : (kk + 1) * N = kk * N + N := Nat.succ_mul _ _
      have e2 : (kk + 1) * (4 * N) = kk * (4 * N) + 4 * N := Nat.succ_mul _ _
      exact ⟨kk + 1, ⟨pgn, prn, dpn, ordn, badn⟩, Agn, cgn, Apn, cpn, Adn, cdn, by omega, by omega, by first | rfl | exact congrArg (Value.int .i64) HW1.out, TN, BN, BB, R1, R3, FN, HSTEP, ⟨by show pgn.length ≤ _; rw [e1]; omega, by show prn.length ≤ _; rw [e2]; omega, by show dpn.length ≤ _; rw [e1]; omega⟩⟩
  ·have hltz : ¬ (kk : Int) < (keys.length : Int) := by omega
   have : kk = keys.length := by omega
   subst this
   have HE := Aside0.mk (show sti = RES by rw [← HRK.out, Nat.sub_self, swKids])
   have hn1 : wr.cell? ⟨gN, 1, none⟩ = some (.slice A1 keys.length c1) := (blk_cell BNK.out 1).trans rfl
   have hn0 : wr.cell? ⟨gN, 0, none⟩ = some (.bool false) := (blk_cell BNK.out 0).trans rfl
   go_wp2
   refine bodyPost_ret (results_list (rs := []) (vs := []) rfl (by simp) Vals.nil) rfl ?_
   rw [← HE.out]
   exact ⟨rfl, _, _, _, _, _, _, TK.out, HFK.out⟩
theorem RnS.len {pages : List ByteArray} {late : List S189} {rn : Int → S68 × Bool} (h : RnS pages late rn) : RnLen rn := by
 intro page hok
 obtain ⟨s, _, _, hc⟩ := h page
 rcases hc with hc | hc
 ·obtain ⟨hshape, _⟩ := (nodeOk_iff _ _ _ _).1 hc.2
  exact ⟨hshape.1.2, fun hl => (hshape.2.2 hl).1⟩
 ·rw [hc.1] at hok; cases hok
theorem skids_len {rn : Int → S68 × Bool} {f : Nat} {deep : Int} {keys : List ByteArray} {kids : List Int} {low high : ByteArray} {has : Bool}
  (ih : ∀ st page deep lo hi ha, (sw rn f st page deep lo hi ha).pg.length ≤ st.pg.length + nf f ∧ (sw rn f st page deep lo hi ha).pr.length ≤ st.pr.length + 4 * nf f ∧ (sw rn f st page deep lo hi ha).dp.length ≤ st.dp.length + nf f) :
  ∀ (n i : Nat) (st : TSt), (swKids (fun s k lo hi ha => sw rn f s k deep lo hi ha) keys kids low high has i n st).pg.length ≤ st.pg.length + n * nf f ∧ (swKids (fun s k lo hi ha => sw rn f s k deep lo hi ha) keys kids low high has i n st).pr.length ≤ st.pr.length + n * (4 * nf f) ∧ (swKids (fun s k lo hi ha => sw rn f s k deep lo hi ha) keys kids low high has i n st).dp.length ≤ st.dp.length + n * nf f
 | 0, i, st => by simp [swKids]
 | n + 1, i, st => by
  have h1 := ih st (kids.getD i 0) deep (leastB low (keys.getD i ByteArray.empty)) (nextB keys high has i) (has || moreB keys high has i)
  have e1 : (n + 1) * nf f = n * nf f + nf f := Nat.succ_mul _ _
  have e2 : (n + 1) * (4 * nf f) = n * (4 * nf f) + 4 * nf f := Nat.succ_mul _ _
  rw [e1, e2]
  simp only [swKids]
  have h2 := skids_len (keys := keys) (kids := kids) (low := low) (high := high) (has := has) (deep := deep) ih n (i + 1) (sw rn f st (kids.getD i 0) deep (leastB low (keys.getD i ByteArray.empty)) (nextB keys high has i) (has || moreB keys high has i))
  omega
theorem sw_len {rn : Int → S68 × Bool} (hl : RnLen rn) : ∀ (f : Nat) (st : TSt) (page deep : Int) (low high : ByteArray) (has : Bool), (sw rn f st page deep low high has).pg.length ≤ st.pg.length + nf f ∧ (sw rn f st page deep low high has).pr.length ≤ st.pr.length + 4 * nf f ∧ (sw rn f st page deep low high has).dp.length ≤ st.dp.length + nf f
 | 0, st, page, deep, low, high, has => by simp [sw, nf]
 | f + 1, st, page, deep, low, high, has => by
  simp only [sw, nf]
  split
  ·simp only; omega
  ·rename_i hb
   have hok : (rn page).2 = true := by
    cases h : (rn page).2
    ·exact absurd (.inl h) hb
    ·rfl
   obtain ⟨h1, h2⟩ := hl page hok
   split
   ·simp only [List.length_append, pairsTo_len, List.length_cons, List.length_nil]; omega
   ·rename_i hleaf
    have h3 := skids_len (keys := (rn page).1.f1) (kids := (rn page).1.f3) (low := low) (high := high) (has := has) (deep := deep + 1) (sw_len hl f) (rn page).1.f1.length 0 ⟨st.pg ++ [page], st.pr, st.dp, st.order, st.bad⟩
    have e1 : (rn page).1.f1.length * nf f ≤ 4 * nf f := Nat.mul_le_mul_right _ (by omega)
    have e2 : (rn page).1.f1.length * (4 * nf f) ≤ 4 * (4 * nf f) := Nat.mul_le_mul_right _ (by omega)
    simp only [List.length_append, List.length_cons, List.length_nil] at h3
    omega
theorem walk_ok (AP : Option Addr) (cP : Nat) (pages : List ByteArray) (AL : Option Addr) (cL : Nat) (late : List S189) (w0 : World) (hP : Kd.C Kd.string w0 AP pages.length pages) (hcP : pages.length ≤ cP) (hL : Kd.C k189 w0 AL late.length late) (hcL : late.length ≤ cL) (rn : Int → S68 × Bool) (hrn : RnS pages late rn) (g : Nat) : ∀ (f : Nat) (st : TSt) (page deep : Int) (low high : ByteArray) (has : Bool) (w : World) (Ag : Option Addr) (cg : Nat) (Ap : Option Addr) (cp : Nat) (Ad : Option Addr) (cd : Nat), deep + (f : Int) = 9 → 0 ≤ deep → st.pg.length + nf f ≤ 1000000 → st.pr.length + 4 * nf f ≤ 1000000 → st.dp.length + nf f ≤ 1000000 →
  TInv cellsS 138 w0 w g (.slice Ag st.pg.length cg) (.slice Ap st.pr.length cp) (.slice Ad st.dp.length cd) st.order st.bad st.pg st.pr st.dp →
  Calls Try.prog 140 #[.agg #[.slice AP pages.length cP, .slice AL late.length cL], .int .i64 page, .int .i64 deep, .string low, .string high, .bool has, .pointer (some ⟨g, 0, none⟩)] w (DownPost cellsS 138 w0 w g (.slice Ag st.pg.length cg) (.slice Ap st.pr.length cp) (.slice Ad st.dp.length cd) (sw rn f st page deep low high has))
 | 0, st, page, deep, low, high, has, w, Ag, cg, Ap, cp, Ad, cd, hf, h1, l1, l2, l3, hT => by
  exact walk_bad AP cP pages AL cL late w0 hP hcP hL hcL rn hrn g st page deep low high has w Ag cg Ap cp Ad cd hT (.inr (.inl (by omega)))
 | f + 1, st, page, deep, low, high, has, w, Ag, cg, Ap, cp, Ad, cd, hf, h1, l1, l2, l3, hT => by
  simp only [nf] at l1 l2 l3
  rw [sw]
  split
  ·rename_i hb
   exact walk_bad AP cP pages AL cL late w0 hP hcP hL hcL rn hrn g st page deep low high has w Ag cg Ap cp Ad cd hT hb
  ·rename_i hb
   have hbad : st.bad = false := by
    cases h : st.bad
    ·rfl
    ·exact absurd (.inr (.inr (.inr h))) hb
   have hok : (rn page).2 = true := by
    cases h : (rn page).2
    ·exact absurd (.inl h) hb
    ·rfl
   have hd : deep < 8 := by
    by_cases h : deep ≥ 8
    ·exact absurd (.inr (.inl h)) hb
    ·omega
   have hcon : st.pg.contains page = false := by
    cases h : st.pg.contains page
    ·rfl
    ·exact absurd (.inr (.inr (.inl h))) hb
   cases hleaf : (rn page).1.f0
   ·rw [if_neg (by simp)]
    exact walk_branch AP cP pages AL cL late w0 hP hcP hL hcL rn hrn g st page deep low high has w Ag cg Ap cp Ad cd hT f (nf f)
     (fun s' kid lo hi ha W Ag' cg' Ap' cp' Ad' cd' k1 k2 k3 k4 => walk_ok AP cP pages AL cL late w0 hP hcP hL hcL rn hrn g f s' kid (deep + 1) lo hi ha W Ag' cg' Ap' cp' Ad' cd' (by omega) (by omega) k1 k2 k3 k4)
     (fun s' kid lo hi ha => sw_len hrn.len f s' kid (deep + 1) lo hi ha) hbad hok h1 hd hcon hleaf (by omega) (by omega) (by omega)
   ·rw [if_pos rfl]
    exact walk_leaf AP cP pages AL cL late w0 hP hcP hL hcL rn hrn g st page deep low high has w Ag cg Ap cp Ad cd hT hbad hok hd hcon hleaf (by omega) (by omega) (by omega)
def ss0 : TSt := ⟨[], [], [], false, false⟩
def look (rn : Int → S68 × Bool) (root : Int) : TSt := if root = 0 then ss0 else sw rn 9 ss0 root 0 ⟨#[]⟩ ⟨#[]⟩ false
theorem l07Look_calls (AP : Option Addr) (cP : Nat) (pages : List ByteArray) (AL : Option Addr) (cL : Nat) (late : List S189) (w : World) (hP : Kd.C Kd.string w AP pages.length pages) (hcP : pages.length ≤ cP) (hL : Kd.C k189 w AL late.length late) (hcL : late.length ≤ cL) (rn : Int → S68 × Bool) (hrn : RnS pages late rn) (root : Int) :
  Calls Try.prog 96 #[.agg #[.slice AP pages.length cP, .slice AL late.length cL], .int .i64 root] w fun e w' => ∃ g Ag cg Ap cp Ad cd, e = .returned (.pointer (some ⟨g, 0, none⟩)) ∧
   TInv cellsS 138 w w' g (.slice Ag (look rn root).pg.length cg) (.slice Ap (look rn root).pr.length cp) (.slice Ad (look rn root).dp.length cd) (look rn root).order (look rn root).bad (look rn root).pg (look rn root).pr (look rn root).dp := by
 have HP := Aside0.mk hP
 have HL := Aside0.mk hL
 have HRN := Aside0.mk hrn
 have T0 : TInv cellsS 138 w ((w.alloc (.cells #[.slice AP pages.length cP, .slice AL late.length cL] 41)).alloc (.cells (cellsS (.slice none 0 0) (.slice none 0 0) (.slice none 0 0) false false) 138)) (w.heap.size + 1) (.slice none 0 0) (.slice none 0 0) (.slice none 0 0) false false [] [] [] :=
  ⟨by simpa using blk_new (w.alloc (.cells #[.slice AP pages.length cP, .slice AL late.length cL] 41)) (.cells (cellsS (.slice none 0 0) (.slice none 0 0) (.slice none 0 0) false false) 138), by omega, nil_int _ _, nil_pr _ _, nil_int _ _, fun k hk => by simp [Value.ownBlock] at hk, below_alloc (below_alloc (Below.refl _ _) _) _⟩
 have T := Aside0.mk T0
 clear hP hL hrn T0
 by_cases hr : root = 0
 ·subst hr
  have hst : look rn 0 = ss0 := if_pos rfl
  rw [hst]
  go_enter Try.func96, Try.ntmps96
  go_wp2
  go_ret
  exact ⟨_, _, _, _, _, _, _, rfl, T.out⟩
 ·have hst : look rn root = sw rn 9 ss0 root 0 ⟨#[]⟩ ⟨#[]⟩ false := if_neg hr
  have hrb : (root != 0) = true := by simpa using hr
  obtain ⟨st, hs⟩ : ∃ z, sw rn 9 ss0 root 0 ⟨#[]⟩ ⟨#[]⟩ false = z := ⟨_, rfl⟩
  rw [hst]
  have HC := Aside0.mk (walk_ok AP cP pages AL cL late w HP.out hcP HL.out hcL rn HRN.out (w.heap.size + 1) 9 ss0 root 0 ⟨#[]⟩ ⟨#[]⟩ false _ none 0 none 0 none 0 (by omega) (by omega) (by simp [nf, ss0]) (by simp [nf, ss0]) (by simp [nf, ss0]) T.out)
  rw [hs] at HC ⊢
  clear hs hst
  go_enter Try.func96, Try.ntmps96
  go_wp2_with fail
  unfold cellsS at HC
  ((with_reducible refine (HC.out).mono ?_); rintro e w1 ⟨rfl, Ag, cg, Ap, cp, Ad, cd, T1, _⟩)
  go_wp2
  go_ret
  exact ⟨_, _, _, _, _, _, _, rfl, T1⟩
def okS (st : TSt) : Bool := !st.bad && !st.order && ascPB st.pr && !(st.dp.any fun n => n != st.dp.getD 0 0)
def RnB (pages : List ByteArray) (late : List S189) (rn : Int → S68 × Bool) : Prop := RnI pages late rn ∧ RnS pages late rn
open Classical in
noncomputable def rnOf (pages : List ByteArray) (late : List S189) : Option (Int → S68 × Bool) := if h : ∃ rn, RnB pages late rn then some (Classical.choose h) else none
theorem rnOf_some {pages : List ByteArray} {late : List S189} {rn : Int → S68 × Bool} (h : rnOf pages late = some rn) : RnB pages late rn := by
 unfold rnOf at h
 split at h
 ·rename_i hx
  injection h with h
  rw [← h]
  exact Classical.choose_spec hx
 ·cases h
theorem rnOf_ex {pages : List ByteArray} {late : List S189} (h : ∃ rn, RnB pages late rn) : ∃ rn, rnOf pages late = some rn := by
 unfold rnOf
 rw [dif_pos h]
 exact ⟨_, rfl⟩
noncomputable def impl_TreeOk.f (l0_0 : List ByteArray) (l0_1 : List S189) (a1 : Int) : Option Bool := (rnOf l0_0 l0_1).map fun rn => okI (tof rn a1)
noncomputable def spec_TreeOk.f (l0_0 : List ByteArray) (l0_1 : List S189) (a1 : Int) : Option Bool := (rnOf l0_0 l0_1).map fun rn => okS (look rn a1)
def RnG (rn : Int → S68 × Bool) : Prop := ∀ page, (rn page).2 = true → (∀ i, i + 1 < (rn page).1.f1.length → lessB ((rn page).1.f1.getD i ByteArray.empty) ((rn page).1.f1.getD (i + 1) ByteArray.empty) = true) ∧ ((rn page).1.f0 = false → (rn page).1.f3.length = (rn page).1.f1.length)
theorem any_or3 {α : Type} (p q r : α → Bool) : ∀ l : List α, (l.any fun x => p x || q x || r x) = (l.any p || l.any q || l.any r)
 | [] => rfl
 | x :: l => by
  simp only [List.any_cons, any_or3 p q r l]
  cases p x <;> cases q x <;> cases r x <;> cases l.any p <;> cases l.any q <;> cases l.any r <;> rfl
theorem any_andc {α : Type} (c : Bool) (p : α → Bool) : ∀ l : List α, (l.any fun x => c && p x) = (c && l.any p)
 | [] => by cases c <;> rfl
 | x :: l => by
  simp only [List.any_cons, any_andc c p l]
  cases c <;> rfl
theorem lt_le {a b c : List UInt8} (h : a < b) (k : b ≤ c) : a < c := by
 by_cases hac : a < c
 ·exact hac
 ·exact absurd (List.lt_of_le_of_lt (List.not_lt.1 hac) h) (List.not_lt.2 k)
theorem not_less {x y : List UInt8} : ¬ x < y ↔ y ≤ x := List.not_lt
theorem out_kid (low high k k' y : ByteArray) (has more : Bool) (hm : more = true → (has = false ∨ Op.bytesLess k'.toList high.toList = true)) (i1 : Bool) (h1 : more = (i1 && (!has || Op.bytesLess k'.toList high.toList))) :
  outB (leastB low k) (if more = true then k' else high) (has || more) y = (outB low high has y || Op.bytesLess y.toList k.toList || (i1 && !(Op.bytesLess y.toList k'.toList))) := by
 have hl : Op.bytesLess y.toList (leastB low k).toList = (Op.bytesLess y.toList low.toList || Op.bytesLess y.toList k.toList) := by
  unfold leastB
  cases hlk : Op.bytesLess low.toList k.toList
  ·rw [if_neg (by simp)]
   rw [bytesLt] at hlk
   have hkl := not_less.1 (of_decide_eq_false hlk)
   rw [bytesLt, bytesLt]
   by_cases h : y.toList < k.toList
   ·rw [decide_eq_true (lt_le h hkl)]; rfl
   ·rw [decide_eq_false h, Bool.or_false]
  ·rw [if_pos rfl]
   rw [bytesLt] at hlk
   have hkl := of_decide_eq_true hlk
   rw [bytesLt, bytesLt]
   by_cases h : y.toList < low.toList
   ·rw [decide_eq_true h, decide_eq_true (List.lt_trans h hkl)]; rfl
   ·rw [decide_eq_false h, Bool.false_or]
 have hh : ((has || more) && !(Op.bytesLess y.toList (if more = true then k' else high).toList)) = ((has && !(Op.bytesLess y.toList high.toList)) || (i1 && !(Op.bytesLess y.toList k'.toList))) := by
  cases i1 with
  | false =>
   have : more = false := by rw [h1]; rfl
   subst this
   simp
  | true =>
   rw [Bool.true_and] at h1
   cases has with
   | false =>
    have : more = true := by rw [h1]; rfl
    subst this
    simp
   | true =>
    cases hk : Op.bytesLess k'.toList high.toList with
    | true =>
     have : more = true := by rw [h1, hk]; rfl
     subst this
     simp only [Bool.or_self, Bool.true_and, if_true]
     rw [bytesLt] at hk
     have hkl := of_decide_eq_true hk
     rw [bytesLt, bytesLt]
     by_cases h : y.toList < k'.toList
     ·rw [decide_eq_true h, decide_eq_true (List.lt_trans h hkl)]; rfl
     ·rw [decide_eq_false h]; cases decide (y.toList < high.toList) <;> rfl
    | false =>
     have : more = false := by rw [h1, hk]; rfl
     subst this
     simp only [Bool.or_false, Bool.true_and, Bool.false_eq_true, if_false]
     rw [bytesLt] at hk
     have hkl := not_less.1 (of_decide_eq_false hk)
     rw [bytesLt, bytesLt]
     by_cases h : y.toList < high.toList
     ·rw [decide_eq_true h, decide_eq_true (lt_le h hkl)]; rfl
     ·rw [decide_eq_false h]; rfl
 show (Op.bytesLess y.toList (leastB low k).toList || ((has || more) && !(Op.bytesLess y.toList (if more = true then k' else high).toList))) = _
 rw [hl, hh]
 unfold outB
 cases Op.bytesLess y.toList low.toList <;> cases Op.bytesLess y.toList k.toList <;> cases (has && !(Op.bytesLess y.toList high.toList)) <;> rfl
def Sy (st st' : TSt) : Prop := st.pg = st'.pg ∧ st.pr = st'.pr ∧ st.dp = st'.dp.map (· + 1) ∧ st.bad = false ∧ st'.bad = false
def SyEnd (st st' a b : TSt) (low high : ByteArray) (has : Bool) : Prop :=
 (a.bad = true ∧ b.bad = true) ∨ (Sy a b ∧ ∃ (new : List S140) (L : Bool), a.pr = st.pr ++ new ∧ a.order = (st.order && L) ∧ b.order = (st'.order || !L || new.any fun x => outB low high has x.f0))
theorem sw_stays (rn : Int → S68 × Bool) (f : Nat) (st : TSt) (page deep : Int) (low high : ByteArray) (has : Bool) (h : st.bad = true) : (sw rn f st page deep low high has).bad = true := by
 cases f with
 | zero => rfl
 | succ f => rw [sw, if_pos (.inr (.inr (.inr h)))]
theorem swKids_stays (rn : Int → S68 × Bool) (f : Nat) (deep : Int) (keys : List ByteArray) (kids : List Int) (low high : ByteArray) (has : Bool) : ∀ (n i : Nat) (st : TSt), st.bad = true → (swKids (fun s k lo hi ha => sw rn f s k deep lo hi ha) keys kids low high has i n st).bad = true
 | 0, i, st, h => h
 | n + 1, i, st, h => swKids_stays rn f deep keys kids low high has n (i + 1) _ (sw_stays rn f st _ _ _ _ _ h)
theorem any_mono {α : Type} {p q : α → Bool} (h : ∀ x, p x = true → q x = true) : ∀ l : List α, l.any p = true → l.any q = true := by
 intro l hl
 obtain ⟨x, hx, hp⟩ := List.any_eq_true.1 hl
 exact List.any_eq_true.2 ⟨x, hx, h x hp⟩
theorem kids_sync (rn : Int → S68 × Bool) (f : Nat) (deep : Int) (keys : List ByteArray) (kids : List Int) (low high : ByteArray) (has : Bool) (hasc : ∀ i, i + 1 < keys.length → lessB (keys.getD i ByteArray.empty) (keys.getD (i + 1) ByteArray.empty) = true)
  (ih : ∀ st st' page low high has, Sy st st' → SyEnd st st' (dn rn f st page (deep + 1)) (sw rn f st' page deep low high has) low high has) (o0 o0' : Bool) (P0 : List S140) :
  ∀ (n i : Nat) (s s' : TSt) (acc : List S140) (L : Bool), i + n = keys.length → Sy s s' → s.pr = P0 ++ acc → s.order = (o0 && L) → s'.order = (o0' || !L || (acc.any fun x => outB low high has x.f0) || (decide (i < keys.length) && acc.any fun x => !(belowK (keys.getD i ByteArray.empty) x))) →
   ((dnKids (fun s k => dn rn f s k (deep + 1)) keys kids P0.length i n s).bad = true ∧ (swKids (fun s k lo hi ha => sw rn f s k deep lo hi ha) keys kids low high has i n s').bad = true) ∨
    (Sy (dnKids (fun s k => dn rn f s k (deep + 1)) keys kids P0.length i n s) (swKids (fun s k lo hi ha => sw rn f s k deep lo hi ha) keys kids low high has i n s') ∧ ∃ (new : List S140) (L : Bool), (dnKids (fun s k => dn rn f s k (deep + 1)) keys kids P0.length i n s).pr = P0 ++ new ∧
     (dnKids (fun s k => dn rn f s k (deep + 1)) keys kids P0.length i n s).order = (o0 && L) ∧ (swKids (fun s k lo hi ha => sw rn f s k deep lo hi ha) keys kids low high has i n s').order = (o0' || !L || new.any fun x => outB low high has x.f0))
 | 0, i, s, s', acc, L, hi, hs, hp, ho, ho' => by
  refine .inr ⟨hs, acc, L, hp, ho, ?_⟩
  rw [show decide (i < keys.length) = false from decide_eq_false (by omega)] at ho'
  show s'.order = _
  simpa using ho'
 | n + 1, i, s, s', acc, L, hi, hs, hp, ho, ho' => by
  simp only [dnKids, swKids]
  have hend := ih s s' (kids.getD i 0) (leastB low (keys.getD i ByteArray.empty)) (nextB keys high has i) (has || moreB keys high has i) hs
  generalize ha : dn rn f s (kids.getD i 0) (deep + 1) = a at hend ⊢
  generalize hb : sw rn f s' (kids.getD i 0) deep (leastB low (keys.getD i ByteArray.empty)) (nextB keys high has i) (has || moreB keys high has i) = b at hend ⊢
  rcases hend with ⟨h1, h2⟩ | ⟨hsy, new, Lc, e1, e2, e3⟩
  ·rw [if_pos h1]
   exact .inl ⟨h1, swKids_stays rn f deep keys kids low high has n (i + 1) b h2⟩
  ·rw [if_neg (by rw [hsy.2.2.2.1]; simp)]
   have hpl : s.pr.length = P0.length + acc.length := by rw [hp, List.length_append]
   have d1 : a.pr.drop s.pr.length = new := by rw [e1, List.drop_left]
   have d2 : (a.pr.take s.pr.length).drop P0.length = acc := by rw [e1, List.take_left, hp, List.drop_left]
   rw [d1, d2]
   have hmore : moreB keys high has i = (decide (i + 1 < keys.length) && (!has || Op.bytesLess (keys.getD (i + 1) ByteArray.empty).toList high.toList)) := rfl
   have hout : (new.any fun x => outB (leastB low (keys.getD i ByteArray.empty)) (nextB keys high has i) (has || moreB keys high has i) x.f0) = ((new.any fun x => outB low high has x.f0) || (new.any (belowK (keys.getD i ByteArray.empty))) || (decide (i + 1 < keys.length) && new.any fun x => !(belowK (keys.getD (i + 1) ByteArray.empty) x))) := by
    rw [← any_andc, ← any_or3]
    congr 1
    funext x
    unfold nextB
    exact out_kid low high (keys.getD i ByteArray.empty) (keys.getD (i + 1) ByteArray.empty) x.f0 has (moreB keys high has i) (fun h => by
     rw [hmore] at h
     simp only [Bool.and_eq_true, Bool.or_eq_true, Bool.not_eq_true'] at h
     exact h.2) (decide (i + 1 < keys.length)) hmore
   have hmon : i + 1 < keys.length → (acc.any fun x => !(belowK (keys.getD (i + 1) ByteArray.empty) x)) = true → (acc.any fun x => !(belowK (keys.getD i ByteArray.empty) x)) = true := by
    intro hlt
    refine any_mono (fun x hx => ?_) acc
    have hk := hasc i hlt
    unfold belowK at hx ⊢
    unfold lessB at hk
    rw [bytesLt] at hx hk ⊢
    have h2 := of_decide_eq_true hk
    by_cases h : x.f0.toList < (keys.getD i ByteArray.empty).toList
    ·rw [decide_eq_true (List.lt_trans h h2)] at hx
     cases hx
    ·rw [decide_eq_false h]; rfl
   refine kids_sync rn f deep keys kids low high has hasc ih o0 o0' P0 n (i + 1) _ _ (acc ++ new) (L && Lc && !(new.any (belowK (keys.getD i ByteArray.empty))) && !(acc.any fun x => !(belowK (keys.getD i ByteArray.empty) x))) (by omega) ⟨hsy.1, hsy.2.1, hsy.2.2.1, hsy.2.2.2.1, hsy.2.2.2.2⟩ ?_ ?_ ?_
   ·show a.pr = _
    rw [e1, hp, List.append_assoc]
   ·show (a.order && _ && _) = _
    rw [e2, ho]
    cases o0 <;> cases L <;> cases Lc <;> simp
   ·rw [e3, ho', hout, decide_eq_true (show i < keys.length by omega), List.any_append, List.any_append]
    generalize (acc.any fun x => !(belowK (keys.getD (i + 1) ByteArray.empty) x)) = A1 at hmon ⊢
    generalize (acc.any fun x => !(belowK (keys.getD i ByteArray.empty) x)) = A0 at hmon ⊢
    generalize (acc.any fun x => outB low high has x.f0) = B0
    generalize (new.any fun x => outB low high has x.f0) = B1
    generalize (new.any (belowK (keys.getD i ByteArray.empty))) = B2
    generalize (new.any fun x => !(belowK (keys.getD (i + 1) ByteArray.empty) x)) = B3
    by_cases hlt : i + 1 < keys.length
    ·rw [decide_eq_true hlt]
     have hm := hmon hlt
     cases A1 with
     | false => cases o0' <;> cases L <;> cases Lc <;> cases A0 <;> cases B0 <;> cases B1 <;> cases B2 <;> cases B3 <;> rfl
     | true =>
      rw [hm rfl]
      cases o0' <;> cases L <;> cases Lc <;> cases B0 <;> cases B1 <;> cases B2 <;> cases B3 <;> rfl
    ·rw [decide_eq_false hlt]
     cases o0' <;> cases L <;> cases Lc <;> cases A0 <;> cases B0 <;> cases B1 <;> cases B2 <;> rfl
theorem sync {rn : Int → S68 × Bool} (hg : RnG rn) : ∀ (f : Nat) (deep : Int) (st st' : TSt) (page : Int) (low high : ByteArray) (has : Bool), Sy st st' → SyEnd st st' (dn rn f st page (deep + 1)) (sw rn f st' page deep low high has) low high has
 | 0, deep, st, st', page, low, high, has, hs => .inl ⟨rfl, rfl⟩
 | f + 1, deep, st, st', page, low, high, has, hs => by
  obtain ⟨s1, s2, s3, s4, s5⟩ := hs
  rw [dn, sw]
  by_cases hb : (rn page).2 = false ∨ deep ≥ 8 ∨ st'.pg.contains page = true ∨ st'.bad = true
  ·rw [if_pos hb, if_pos (by rw [s1, s4, s5] at *; rcases hb with h | h | h | h; exact .inr (.inl h); exact .inr (.inr (.inl (by omega))); exact .inr (.inr (.inr h)); cases h)]
   exact .inl ⟨rfl, rfl⟩
  ·have hok : (rn page).2 = true := by
    cases h : (rn page).2
    ·exact absurd (.inl h) hb
    ·rfl
   rw [if_neg hb, if_neg (by rw [s1, s4]; intro h; rcases h with h | h | h | h; cases h; exact hb (.inl h); exact hb (.inr (.inl (by omega))); exact hb (.inr (.inr (.inl h))))]
   cases hleaf : (rn page).1.f0
   ·rw [if_neg (by simp), if_neg (by simp)]
    obtain ⟨hasc, hlen⟩ := hg page hok
    have hk := kids_sync rn f (deep + 1) (rn page).1.f1 (rn page).1.f3 low high has hasc (fun st st' page low high has h => sync hg f (deep + 1) st st' page low high has h) st.order st'.order st.pr (rn page).1.f1.length 0 ⟨st.pg ++ [page], st.pr, st.dp, st.order, st.bad⟩ ⟨st'.pg ++ [page], st'.pr, st'.dp, st'.order, st'.bad⟩ [] true (by omega) ⟨by rw [s1], s2, s3, s4, s5⟩ (by simp) (by simp) (by simp)
    rw [hlen hleaf]
    rcases hk with h | ⟨h1, new, L, h2, h3, h4⟩
    ·exact .inl h
    ·exact .inr ⟨h1, new, L, h2, h3, h4⟩
   ·rw [if_pos rfl, if_pos rfl]
    refine .inr ⟨⟨by rw [s1], by rw [s2], by rw [s3, List.map_append, List.map_singleton], s4, s5⟩, pairsTo (rn page).1.f1 (rn page).1.f2 (rn page).1.f1.length, true, rfl, by simp, ?_⟩
    show (st'.order || _) = _
    congr 1
    ·simp
    ·unfold pairsTo
     rw [List.any_map]
     have : (rn page).1.f1 = (List.range (rn page).1.f1.length).map fun i => (rn page).1.f1.getD i ByteArray.empty := by
      apply List.ext_getElem
      ·simp
      ·intro j h1 h2
       simp [List.getD_eq_getElem?_getD, List.getElem?_eq_getElem h1]
     conv => lhs; rw [this]
     rw [List.any_map]
     rfl
end Go.Proofs.Ytapholbdjccapaa.PFnExactTreeOk
