import Derived.Test.YtapholbdjccapaaTA9
namespace Go.Proofs.Ytapholbdjccapaa.PFnExactTreeOk
open Go.RowKit Go.Proofs.YtapholbdjccapaaW.PrintWords Go.Proofs.YtapholbdjccapaaW.PrintLast Go.Proofs.YtapholbdjccapaaW.PrintMore
set_option linter.unusedVariables false
set_option linter.unusedSimpArgs false
def spec_l07Walk.T21 : Bool × List (List Nat × List Nat) := (true, [([], []), ([], []), ([1], [1]), ([], []), ([2, 3], [2, 3]), ([4], [4]), ([], []), ([6], [6]), ([], []), ([], []), ([], []), ([], []), ([0, 5, 7, 8, 9, 10, 11], [0, 5, 7, 8, 9, 10, 11])])
def spec_l07Walk.B21 : List Nat := [0, 0, 2, 0, 14, 30, 0, 64, 0, 0, 0, 0, 4095]
theorem spec_l07Walk.tab21 : rtab .any (opsOf Try.f140 21) = spec_l07Walk.T21 := by kernel_rfl
theorem spec_l07Walk.bits21 : waitsOk spec_l07Walk.T21.2 spec_l07Walk.B21 = true := by kernel_rfl
theorem bytesLt : ∀ (x y : List UInt8), Op.bytesLess x y = decide (x < y)
 | [], [] => by simp [Op.bytesLess]
 | _ :: _, [] => by simp [Op.bytesLess]
 | [], _ :: _ => by simp [Op.bytesLess]
 | a :: x, b :: y => by
  rw [Op.bytesLess, bytesLt x y]
  simp only [List.cons_lt_cons_iff]
  by_cases h1 : a < b <;> by_cases h2 : a = b <;> by_cases h3 : x < y <;> simp [h1, h2, h3]
theorem less_asymm {a b : ByteArray} (h : Op.bytesLess a.toList b.toList = true) : Op.bytesLess b.toList a.toList = false := by
 rw [bytesLt] at h ⊢
 exact decide_eq_false (List.lt_asymm (of_decide_eq_true h))
theorem less_neq {a b : ByteArray} (h : Op.bytesLess a.toList b.toList = true) : (b.toList == a.toList) = false := by
 rw [bytesLt] at h
 exact beq_eq_false_iff_ne.2 (fun e => by rw [e] at h; exact List.lt_irrefl _ (of_decide_eq_true h))
theorem less_tri {a b : ByteArray} (h : Op.bytesLess a.toList b.toList = false) : ¬ ((!Op.bytesLess b.toList a.toList) = true ∧ (!b.toList == a.toList) = true) := by
 rw [bytesLt] at h
 rw [bytesLt]
 intro ⟨h1, h2⟩
 have h3 : ¬ a.toList < b.toList := of_decide_eq_false h
 have h4 : ¬ b.toList < a.toList := by simpa using h1
 have h5 : b.toList ≠ a.toList := by simpa using h2
 exact h5 (List.le_antisymm (List.not_lt.1 h3) (List.not_lt.1 h4))
theorem walk_arg {f : Nat} {a b : Value} {d d' : Int} {lo hi ha q : Value} {w : World} {post : Ending → World → Prop} (h : Calls Try.prog f #[a, b, .int .i64 d, lo, hi, ha, q] w post) (e : d' = d) : Calls Try.prog f #[a, b, .int .i64 d', lo, hi, ha, q] w post := by subst e; exact h
set_option maxHeartbeats 64000000 in
set_option maxRecDepth 100000 in
theorem walk_branch (AP : Option Addr) (cP : Nat) (pages : List ByteArray) (AL : Option Addr) (cL : Nat) (late : List S189) (w0 : World) (hP : Kd.C Kd.string w0 AP pages.length pages) (hcP : pages.length ≤ cP) (hL : Kd.C k189 w0 AL late.length late) (hcL : late.length ≤ cL) (rn : Int → S68 × Bool) (hrn : RnS pages late rn) (g : Nat) (st : TSt) (page deep : Int) (low high : ByteArray) (has : Bool) (w : World) (Ag : Option Addr) (cg : Nat) (Ap : Option Addr) (cp : Nat) (Ad : Option Addr) (cd : Nat) (hT : TInv cellsS 138 w0 w g (.slice Ag st.pg.length cg) (.slice Ap st.pr.length cp) (.slice Ad st.dp.length cd) st.order st.bad st.pg st.pr st.dp) (f N : Nat) (hrec : ∀ (s' : TSt) (kid : Int) (lo hi : ByteArray) (ha : Bool) (W : World) (Ag' : Option Addr) (cg' : Nat) (Ap' : Option Addr) (cp' : Nat) (Ad' : Option Addr) (cd' : Nat), s'.pg.length + N ≤ 1000000 → s'.pr.length + 4 * N ≤ 1000000 → s'.dp.length + N ≤ 1000000 → TInv cellsS 138 w0 W g (.slice Ag' s'.pg.length cg') (.slice Ap' s'.pr.length cp') (.slice Ad' s'.dp.length cd') s'.order s'.bad s'.pg s'.pr s'.dp →
   Calls Try.prog 140 #[.agg #[.slice AP pages.length cP, .slice AL late.length cL], .int .i64 kid, .int .i64 (deep + 1), .string lo, .string hi, .bool ha, .pointer (some ⟨g, 0, none⟩)] W (DownPost cellsS 138 w0 W g (.slice Ag' s'.pg.length cg') (.slice Ap' s'.pr.length cp') (.slice Ad' s'.dp.length cd') (sw rn f s' kid (deep + 1) lo hi ha)))
  (hlen : ∀ s' kid lo hi ha, (sw rn f s' kid (deep + 1) lo hi ha).pg.length ≤ s'.pg.length + N ∧ (sw rn f s' kid (deep + 1) lo hi ha).pr.length ≤ s'.pr.length + 4 * N ∧ (sw rn f s' kid (deep + 1) lo hi ha).dp.length ≤ s'.dp.length + N)
  (hbad : st.bad = false) (hok : (rn page).2 = true) (hd0 : 0 ≤ deep) (hd : deep < 8) (hcon : st.pg.contains page = false) (hleaf : (rn page).1.f0 = false) (hlg : st.pg.length + 1 + 4 * N ≤ 1000000) (hlp : st.pr.length + 4 * (4 * N) ≤ 1000000) (hld : st.dp.length + 4 * N ≤ 1000000) :
  Calls Try.prog 140 #[.agg #[.slice AP pages.length cP, .slice AL late.length cL], .int .i64 page, .int .i64 deep, .string low, .string high, .bool has, .pointer (some ⟨g, 0, none⟩)] w (DownPost cellsS 138 w0 w g (.slice Ag st.pg.length cg) (.slice Ap st.pr.length cp) (.slice Ad st.dp.length cd) (swKids (fun s k lo hi ha => sw rn f s k (deep + 1) lo hi ha) (rn page).1.f1 (rn page).1.f3 low high has 0 (rn page).1.f1.length ⟨st.pg ++ [page], st.pr, st.dp, st.order, st.bad⟩)) := by
 obtain ⟨s, ⟨k, hs⟩, hnode, hcase⟩ := hrn page
 have HS := Aside0.mk hs
 have HN := Aside0.mk hnode
 have HP := Aside0.mk hP
 have HL := Aside0.mk hL
 have HCASE := Aside0.mk hcase
 have HRN := Aside0.mk hrn
 have T0 := Aside0.mk hT
 obtain ⟨pg, pr, dp, order, bad⟩ := st
 obtain ⟨n, hn⟩ : ∃ n, (rn page).1 = n := ⟨_, rfl⟩
 obtain ⟨ok, hok⟩ : ∃ ok, (rn page).2 = ok := ⟨_, rfl⟩
 have HNN := Aside0.mk (And.intro hn hok)
 rw [hn, hok] at HN HCASE
 obtain ⟨leaf, keys, vals, kids⟩ := n
 simp only at T0
 clear hs hnode hP hL hcase hrn hT hn hok
 rw [HNN.out.1] at hleaf ⊢
 simp only at hbad hcon hlg hlp hld hleaf ⊢
 subst hleaf
 have HREC := Aside0.mk hrec
 have HLEN := Aside0.mk hlen
 have HWD := Aside0.mk (show wrap64 (deep + 1) = deep + 1 by unfold wrap64; omega)
 clear hrec hlen
 subst hbad
 rw [HNN.out.2] at hok
 subst hok
 have hd1 : decide (8 ≤ deep) = false := decide_eq_false (by omega)
 have hnk : nodeOkB false keys vals kids = true := by
  rcases HCASE.out with h | h
  ·exact h.2
  ·cases h.1
 obtain ⟨hshape, hcond⟩ := (nodeOk_iff _ _ _ _).1 hnk
 obtain ⟨kc, hkc⟩ := in_ev pg page false hcon (R_seen T0.out.rg).2.2.1
 have HKC := Aside0.mk hkc
 have HLG := Aside0.mk hlg
 have HLP := Aside0.mk hlp
 have HLD := Aside0.mk hld
 obtain ⟨ks1, hks⟩ : ∃ z, z = pg ++ [page] := ⟨_, rfl⟩
 have HKS1 := Aside0.mk hks
 clear hd hcon hkc hnk hlg hlp hld hks hcond
 have HVK := Aside0.mk (hshape.2.2 rfl).1
 have hkl : keys.length ≤ 4 := hshape.1.2
 clear hshape
 obtain ⟨RES, hres⟩ : ∃ z, z = swKids (fun s k lo hi ha => sw rn f s k (deep + 1) lo hi ha) keys kids low high has 0 keys.length ⟨ks1, pr, dp, order, false⟩ := ⟨_, rfl⟩
 have HRES := Aside0.mk hres
 rw [← HKS1.out, ← hres]
 clear hres
 go_enter Try.func140, Try.ntmps140
 go_upto_region 1 with (fail)
 have TA := Aside0.mk (T0.out.alloc (.cells #[.slice AP pages.length cP, .slice AL late.length cL] 41))
 have BA := Aside0.mk (blk_new w (.cells #[.slice AP pages.length cP, .slice AL late.length cL] 41))
 have HFA := Aside0.mk ((TFr.refl w g (.slice Ag pg.length cg) (.slice Ap pr.length cp) (.slice Ad dp.length cd)).below (below_alloc (Below.refl _ _) (.cells #[.slice AP pages.length cP, .slice AL late.length cL] 41)))
 have hsA := Aside0.mk (show w.heap.size ≤ w.heap.size from Nat.le_refl _)
 obtain ⟨gD, hgd⟩ : ∃ z, w.heap.size = z := ⟨_, rfl⟩
 generalize hwa : w.alloc (.cells #[.slice AP pages.length cP, .slice AL late.length cL] 41) = wA at TA BA HFA ⊢
 clear hwa T0
 rw [hgd] at BA ⊢
 have HGD := Aside0.mk hgd
 clear hgd hsA
 have hgD := blk_lt BA.out
 have hx0 : wA.cell? ⟨gD, 0, none⟩ = some (.slice AP pages.length cP) := (blk_cell BA.out 0).trans rfl
 have hx1 : wA.cell? ⟨gD, 1, none⟩ = some (.slice AL late.length cL) := (blk_cell BA.out 1).trans rfl
 go_wp2_with fail
 ((with_reducible refine (spec_ReadPage.calls k AP cP pages AL cL late page s _ (Kd.C_below HP.out TA.out.bel) hcP (Kd.C_below HL.out TA.out.bel) hcL HS.out).mono ?_); rintro e w1 ⟨rfl, hb1⟩)
 have T1 := Aside0.mk (TA.out.below hb1)
 have HB1 := Aside0.mk hb1
 clear hb1
 go_wp2_with fail
 ((with_reducible refine (HN.out _).mono ?_); rintro e w2 ⟨A1, c1, A2, c2, A3, c3, rfl, r1, r2, r3, hb2⟩)
 have T3 := Aside0.mk ((T1.out.below hb2).alloc (.cells #[.bool false, .slice A1 keys.length c1, .slice A2 vals.length c2, .slice A3 kids.length c3] 68))
 have HB2 := Aside0.mk (show Below wA.heap.size wA w2 from below_step HB1.out hb2)
 have BN := Aside0.mk (blk_new w2 (.cells #[.bool false, .slice A1 keys.length c1, .slice A2 vals.length c2, .slice A3 kids.length c3] 68))
 have BD := Aside0.mk (blk_below BA.out (below_alloc HB2.out (.cells #[.bool false, .slice A1 keys.length c1, .slice A2 vals.length c2, .slice A3 kids.length c3] 68)))
 have R1 := Aside0.mk (Kd.R_lower (base' := w0.heap.size) (Kd.R_below r1 (below_alloc (Below.refl _ _) (.cells #[.bool false, .slice A1 keys.length c1, .slice A2 vals.length c2, .slice A3 kids.length c3] 68))) T1.out.bel.size)
 have R2 := Aside0.mk (Kd.R_lower (base' := w0.heap.size) (Kd.R_below r2 (below_alloc (Below.refl _ _) (.cells #[.bool false, .slice A1 keys.length c1, .slice A2 vals.length c2, .slice A3 kids.length c3] 68))) T1.out.bel.size)
 have R3 := Aside0.mk (Kd.R_lower (base' := w0.heap.size) (Kd.R_below r3 (below_alloc (Below.refl _ _) (.cells #[.bool false, .slice A1 keys.length c1, .slice A2 vals.length c2, .slice A3 kids.length c3] 68))) T1.out.bel.size)
 have HF3 := Aside0.mk (HFA.out.below (below_alloc HB2.out (.cells #[.bool false, .slice A1 keys.length c1, .slice A2 vals.length c2, .slice A3 kids.length c3] 68)))
 have HNE := Aside0.mk (show NeRow (.slice A1 keys.length c1) (.slice Ag pg.length cg) ∧ NeRow (.slice A3 kids.length c3) (.slice Ag pg.length cg) ∧ NeRow (.slice A3 kids.length c3) (.slice Ad dp.length cd) from ⟨ne_fresh r1 T1.out.rg, ne_fresh r3 T1.out.rg, ne_fresh r3 T1.out.rd⟩)
 clear r1 r2 r3 hb2 T1 TA BA HFA hx0 hx1
 go_upto_region 2 with (fail)
 have hgN := Aside0.mk (blk_lt BN.out)
 generalize hw3 : w2.alloc (.cells #[.bool false, .slice A1 keys.length c1, .slice A2 vals.length c2, .slice A3 kids.length c3] 68) = w3 at T3 BN BD R1 R2 R3 HF3 hgN ⊢
 clear hw3 HB1 HB2
 obtain ⟨gN, hgn⟩ : ∃ gN, w2.heap.size = gN := ⟨_, rfl⟩
 rw [hgn] at BN hgN ⊢
 clear hgn hgD
 have hgl := blk_lt T3.out.bT
 have hf2 := blk_frozen T3.out.bT
 have hd0 : w3.cell? ⟨g, 1, none⟩ = some (.slice Ag pg.length cg) := (blk_cell T3.out.bT 1).trans rfl
 have hd3 : w3.cell? ⟨g, 3, none⟩ = some (.bool false) := (blk_cell T3.out.bT 3).trans rfl
 go_wp2_with fail
 ((with_reducible refine (spec_l06In.calls kc Ag cg pg page false _ (R_seen T3.out.rg).2 (R_seen T3.out.rg).1 HKC.out).mono ?_); rintro e w4 ⟨rfl, nd4, rfl⟩)
 have T4 := Aside0.mk (T3.out.below (Drawn0.below ⟨nd4, rfl⟩))
 have BN4 := Aside0.mk (blk_below BN.out (Drawn0.below ⟨nd4, rfl⟩))
 have BD4 := Aside0.mk (blk_below BD.out (Drawn0.below ⟨nd4, rfl⟩))
 have R14 := Aside0.mk (Kd.R_below R1.out (Drawn0.below ⟨nd4, rfl⟩))
 have R24 := Aside0.mk (Kd.R_below R2.out (Drawn0.below ⟨nd4, rfl⟩))
 have R34 := Aside0.mk (Kd.R_below R3.out (Drawn0.below ⟨nd4, rfl⟩))
 have HF4 := Aside0.mk (HF3.out.below (Drawn0.below ⟨nd4, rfl⟩))
 clear T3 BN BD R1 R2 R3 HF3
 generalize w3.drewN nd4 = w4 at T4 BN4 BD4 R14 R24 R34 HF4 ⊢
 have hgl4 := blk_lt T4.out.bT
 have hd14 : w4.cell? ⟨g, 1, none⟩ = some (.slice Ag pg.length cg) := (blk_cell T4.out.bT 1).trans rfl
 have hd34 : w4.cell? ⟨g, 3, none⟩ = some (.bool false) := (blk_cell T4.out.bT 3).trans rfl
 clear hf2 hd0 hd3 hgl
 go_upto_region 5 with (((with_reducible refine gate_builtin (b := .append) (xs := #[.tmp 55, .tmp 57]) rfl ?_); at_builtin; refine Kd.R_append (Kd.int .i64) (w0 := w0) w0.heap.size rfl (.tmp 55) (.tmp 57) 30 3 (.int .i64 0) 8 rfl Try.underlying30 info3d rfl (by decide) (by omega) (.slice Ag pg.length cg) pg page [.int .i64 page] (fun _ => True) (fun _ => False) rfl rfl ?aP (fun _ hk => hk.elim) ?aF ?aO ?aB ?aS ?aL ?_; (case aP => exact rfl); (case aF => exact (fun _ _ => trivial)); (case aO => exact T4.out.rg); (case aB => exact T4.out.bel); (case aS => exact T4.out.bel.size); (case aL => have := HLG.out; omega); intro va wa ho hb hgr hat; rw [← HKS1.out] at ho; obtain ⟨Ao1, co1, eo⟩ := Kd.R_slice ho; subst eo; have ba := Aside0.mk (blk_grown T4.out.bT hgr (Kd.R_ne T4.out.rg T4.out.bT (by decide))); have hsa : wa.cell? ⟨g, 1, none⟩ = some (.slice Ag pg.length cg) := (blk_cell ba.out 1).trans rfl; have hfa := blk_frozen ba.out; have hla := blk_lt ba.out; have TT := Aside0.mk (T4.out.pushPg layS (by decide) ho hb hgr hat); clear ho hb hgr hat))
 clear hsa hfa hla ba hd14 hd34 hgl4
 generalize hwx : wa.setCell ⟨g, 1, none⟩ _ = w5 at TT ⊢
 clear hwx
 obtain ⟨TT1, TT2⟩ := TT.out
 have T5 := Aside0.mk TT1
 have HF5 := Aside0.mk (HF4.out.trans TT2)
 have BN5 := Aside0.mk (blk_fr TT2 T4.out BN4.out (by decide))
 have BD5 := Aside0.mk (blk_fr TT2 T4.out BD4.out (by decide))
 have R15 := Aside0.mk (R9_fr TT2 T4.out (by decide) R14.out)
 have R25 := Aside0.mk (R9_fr TT2 T4.out (by decide) R24.out)
 have R35 := Aside0.mk (R3_fr TT2 T4.out (by decide) R34.out HNE.out.2.1 HNE.out.2.2)
 clear TT TT1 TT2 T4 BN4 BD4 R14 R24 R34 HF4
 go_wp2_with fail
 go_loopg [16] keys.length (fun gg s16 wr => ∃ (kk : Nat) (sti : TSt) (Agk : Option Addr) (cgk : Nat) (Apk : Option Addr) (cpk : Nat) (Adk : Option Addr) (cdk : Nat), kk ≤ keys.length ∧ keys.length - kk ≤ gg ∧ s16 = .int .i64 kk ∧ Aside0 (TInv cellsS 138 w0 wr g (.slice Agk sti.pg.length cgk) (.slice Apk sti.pr.length cpk) (.slice Adk sti.dp.length cdk) sti.order sti.bad sti.pg sti.pr sti.dp) ∧ Aside0 (wr.heap[gN]? = some (.cells #[.bool false, .slice A1 keys.length c1, .slice A2 vals.length c2, .slice A3 kids.length c3] 68 (0, 0))) ∧ Aside0 (wr.heap[gD]? = some (.cells #[.slice AP pages.length cP, .slice AL late.length cL] 41 (0, 0))) ∧
   Aside0 (Kd.R Kd.string 9 wr w0.heap.size (fun _ => True) (.slice A1 keys.length c1) keys) ∧ Aside0 (Kd.R (Kd.int .i64) 3 wr w0.heap.size (fun _ => True) (.slice A3 kids.length c3) kids ∧ NeRow (.slice A3 kids.length c3) (.slice Agk sti.pg.length cgk) ∧ NeRow (.slice A3 kids.length c3) (.slice Adk sti.dp.length cdk)) ∧ Aside0 (TFr w wr g (.slice Ag pg.length cg) (.slice Ap pr.length cp) (.slice Ad dp.length cd) (.slice Agk sti.pg.length cgk) (.slice Apk sti.pr.length cpk) (.slice Adk sti.dp.length cdk)) ∧
   Aside0 (swKids (fun s k lo hi ha => sw rn f s k (deep + 1) lo hi ha) keys kids low high has kk (keys.length - kk) sti = RES) ∧ Aside0 (sti.pg.length ≤ pg.length + 1 + kk * N ∧ sti.pr.length ≤ pr.length + kk * (4 * N) ∧ sti.dp.length ≤ dp.length + kk * N))
 case atStart =>
  exact ⟨0, ⟨ks1, pr, dp, order, false⟩, Ao1, co1, Ap, cp, Ad, cd, Nat.zero_le _, by omega, rfl, T5, BN5, BD5, R15, R35, HF5, ⟨HRES.out.symm⟩, ⟨by show ks1.length ≤ _; rw [HKS1.out]; simp, by simp, by simp⟩⟩
 case round =>
  clear T5 BN5 BD5 R15 R25 R35 HF5
  obtain ⟨kk, sti, Agk, cgk, Apk, cpk, Adk, cdk, hkk, hgg, rfl, TK, BNK, BDK, R1K, R3K, HFK, HRK, HLK⟩ := hrel
  by_cases hlt : kk < keys.length
  ·have hltz : (kk : Int) < (keys.length : Int) := by omega
   have hlk : kk < kids.length := by have := HVK.out; omega
   have hlkz : (kk : Int) < (kids.length : Int) := by omega
   obtain ⟨ad1, rfl⟩ := some_ad R1K.out (by omega)
   obtain ⟨ad3, rfl⟩ := some_ad R3K.out.1 (by omega)
   have hk1 := seen_str R1K.out hlt
   obtain ⟨key, hkey⟩ : ∃ key, keys[kk] = key := ⟨_, rfl⟩
   obtain ⟨kid, hkid⟩ : ∃ kid, kids[kk] = kid := ⟨_, rfl⟩
   rw [hkey] at hk1
   have HKEY := Aside0.mk (show keys.getD kk ByteArray.empty = key by rw [List.getD_eq_getElem?_getD, List.getElem?_eq_getElem hlt, Option.getD_some, hkey])
   have HKID := Aside0.mk (show kids.getD kk 0 = kid by rw [List.getD_eq_getElem?_getD, List.getElem?_eq_getElem hlk, Option.getD_some, hkid])
   have HKID2 := Aside0.mk hkid
   obtain ⟨pgi, pri, dpi, ordi, badi⟩ := sti
   simp only at TK R3K HFK HLK
   obtain ⟨hm2, hm3, hm4⟩ := HLK.out
   have hkN : kk * N ≤ 3 * N := Nat.mul_le_mul_right _ (by omega)
   have hkN4 : kk * (4 * N) ≤ 3 * (4 * N) := Nat.mul_le_mul_right _ (by omega)
   have hq1 : pgi.length + N ≤ 1000000 := by have := HLG.out; omega
   have hq2 : pri.length + 4 * N ≤ 1000000 := by have := HLP.out; omega
   have hq3 : dpi.length + N ≤ 1000000 := by have := HLD.out; omega
   have HQ := Aside0.mk (And.intro hq1 (And.intro hq2 hq3))
   have HSTEP := Aside0.mk (show swKids (fun s k lo hi ha => sw rn f s k (deep + 1) lo hi ha) keys kids low high has (kk + 1) (keys.length - (kk + 1)) (sw rn f ⟨pgi, pri, dpi, ordi, badi⟩ kid (deep + 1) (leastB low key) (nextB keys high has kk) (has || moreB keys high has kk)) = RES by
    rw [← HRK.out, show keys.length - kk = keys.length - (kk + 1) + 1 by omega, swKids, HKID.out, HKEY.out])
   obtain ⟨m, hm⟩ : ∃ m, m = kk + 1 := ⟨_, rfl⟩
   have HM := Aside0.mk hm
   have hw1 : wrap64 ((kk : Int) + 1) = (m : Int) := by unfold wrap64; omega
   have hw2 : IntKind.i64.wrap ((kk : Int) + 1) = (m : Int) := (i64_w _).trans hw1
   have hn1 : wr.cell? ⟨gN, 1, none⟩ = some (.slice (some ad1) keys.length c1) := (blk_cell BNK.out 1).trans rfl
   have hn0 : wr.cell? ⟨gN, 0, none⟩ = some (.bool false) := (blk_cell BNK.out 0).trans rfl
   clear hkey hkid hm2 hm3 hm4 hkN hkN4 hq1 hq2 hq3 HRK hm
   cases hless : Op.bytesLess low.toList key.toList with
   | true =>
    have HLE := Aside0.mk (show leastB low key = key by unfold leastB; rw [hless]; exact if_pos rfl)
    have hgt1 : Op.bytesLess key.toList low.toList = false := less_asymm hless
    have hgt2 : (key.toList == low.toList) = false := less_neq hless
    have HLS := Aside0.mk hless
    clear hless
    by_cases hnx : m < keys.length
    ·have hnxz : (m : Int) < (keys.length : Int) := by omega
     have hk2 := seen_str R1K.out hnx
     obtain ⟨nx, hnxt⟩ : ∃ nx, keys[m] = nx := ⟨_, rfl⟩
     rw [hnxt] at hk2
     have HNEXT := Aside0.mk (show keys.getD (kk + 1) ByteArray.empty = nx by rw [← HM.out, List.getD_eq_getElem?_getD, List.getElem?_eq_getElem hnx, Option.getD_some, hnxt])
     clear hnxt
     cases has with
     | false =>
      have HMORE := Aside0.mk (show moreB keys high false kk = true by unfold moreB; rw [← HM.out, decide_eq_true hnx]; rfl)
      go_upto_region 21 with (fail)
      clear hn1 hn0 hk1
      have HMO := Aside0.mk (show nextB keys high false kk = nx ∧ (false || moreB keys high false kk) = true by unfold nextB; rw [HMORE.out]; exact ⟨(if_pos rfl).trans HNEXT.out, rfl⟩)
      have Td := Aside0.mk TK.out.drew
      have Bd := Aside0.mk (blk_below BNK.out (Below.refl _ _).drew)
      have Bb := Aside0.mk (blk_below BDK.out (Below.refl _ _).drew)
      have Rd1 := Aside0.mk (Kd.R_below R1K.out (Below.refl _ _).drew)
      have Rd3 := Aside0.mk (And.intro (Kd.R_below R3K.out.1 (Below.refl _ _).drew) R3K.out.2)
      have Fd := Aside0.mk (HFK.out.below (Below.refl _ _).drew)
      clear TK BNK BDK R1K R3K HFK
      refine start_ (n := 13) (S := fun w' => w'.cell? ⟨gD, 0, none⟩ = some (.slice AP pages.length cP) ∧ w'.cell? ⟨gD, 1, none⟩ = some (.slice AL late.length cL) ∧ w'.cell? ⟨gN, 3, none⟩ = some (.slice (some ad3) kids.length c3) ∧ w'.cell? (ad3.add kk) = some (.int .i64 kid)) (ds := [12]) #[false, false, false, false, false, false, false, false, false, false, false, false, false] (by kernel_rfl) rfl rfl ⟨(blk_cell Bb.out 0).trans rfl, (blk_cell Bb.out 1).trans rfl, (blk_cell Bd.out 3).trans rfl, (seen_int Rd3.out.1 hlk).trans (by rw [HKID2.out])⟩ (fun hHeld => ?_); refine with_tabW spec_l07Walk.tab21 spec_l07Walk.bits21 (fun HT_ HW_ => ?_)
      generalize wr.drew = wd at Td Bd Bb Rd1 Rd3 Fd hHeld ⊢
      refine take_ (i := 0) (N := some 138) (v := ?_) (a' := ?_) #[true, false, false, false, false, false, false, false, false, false, false, false, false] rfl rfl (take_ofW HT_.out HW_.out (by kernel_rfl)) (fun _ _ _ h => h) (Or.inl ⟨by rfl, ?_⟩) hHeld ?_ ?_
      rotate_left
      ·rintro w' ⟨s0, s1, s2, s3⟩
       go_simp
       with_reducible rfl
      rotate_left
      ·simp only [Act.put, List.setIfInBounds_toArray, List.set_cons_zero, List.set_cons_succ, i64_w, i32_w]
       rfl
      refine pure_ (i := 1) (N := some 139) (v := ?_) (a' := ?_) #[true, true, false, false, false, false, false, false, false, false, false, false, false] rfl rfl (any_of HT_.out (by kernel_rfl)) (fun _ _ _ h => h) (Or.inl ⟨by rfl, ?_⟩) ?_ ?_
      rotate_left
      ·intro w'
       go_simp
       with_reducible rfl
      rotate_left
      ·simp only [Act.put, List.setIfInBounds_toArray, List.set_cons_zero, List.set_cons_succ, i64_w, i32_w]
       rfl
      refine take_ (i := 2) (N := some 140) (v := ?_) (a' := ?_) #[true, true, true, false, false, false, false, false, false, false, false, false, false] rfl rfl (take_ofW HT_.out HW_.out (by kernel_rfl)) (fun _ _ _ h => h) (Or.inl ⟨by rfl, ?_⟩) hHeld ?_ ?_
      rotate_left
      ·rintro w' ⟨s0, s1, s2, s3⟩
       go_simp
       with_reducible rfl
      rotate_left
      ·simp only [Act.put, List.setIfInBounds_toArray, List.set_cons_zero, List.set_cons_succ, i64_w, i32_w]
       rfl
      refine pure_ (i := 3) (N := some 141) (v := ?_) (a' := ?_) #[true, true, true, true, false, false, false, false, false, false, false, false, false] rfl rfl (any_of HT_.out (by kernel_rfl)) (fun _ _ _ h => h) (Or.inl ⟨by rfl, ?_⟩) ?_ ?_
      rotate_left
      ·intro w'
       go_simp
       with_reducible rfl
      rotate_left
      ·simp only [Act.put, List.setIfInBounds_toArray, List.set_cons_zero, List.set_cons_succ, i64_w, i32_w]
       rfl
      refine pure_ (i := 4) (N := some 142) (v := ?_) (a' := ?_) #[true, true, true, true, true, false, false, false, false, false, false, false, false] rfl rfl (any_of HT_.out (by kernel_rfl)) (fun _ _ _ h => h) (Or.inl ⟨by rfl, ?_⟩) ?_ ?_
      rotate_left
      ·intro w'
       go_simp
       with_reducible rfl
      rotate_left
      ·simp only [Act.put, List.setIfInBounds_toArray, List.set_cons_zero, List.set_cons_succ, i64_w, i32_w]
       rfl
      refine take_ (i := 5) (N := some 143) (v := ?_) (a' := ?_) #[true, true, true, true, true, true, false, false, false, false, false, false, false] rfl rfl (take_ofW HT_.out HW_.out (by kernel_rfl)) (fun _ _ _ h => h) (Or.inl ⟨by rfl, ?_⟩) hHeld ?_ ?_
      rotate_left
      ·rintro w' ⟨s0, s1, s2, s3⟩
       go_simp
       with_reducible rfl
      rotate_left
      ·simp only [Act.put, List.setIfInBounds_toArray, List.set_cons_zero, List.set_cons_succ, i64_w, i32_w]
       rfl
      refine pure_ (i := 6) (N := some 144) (v := ?_) (a' := ?_) #[true, true, true, true, true, true, true, false, false, false, false, false, false] rfl rfl (any_of HT_.out (by kernel_rfl)) (fun _ _ _ h => h) (Or.inl ⟨by rfl, ?_⟩) ?_ ?_
      rotate_left
      ·intro w'
       go_simp
       with_reducible rfl
      rotate_left
      ·simp only [Act.put, List.setIfInBounds_toArray, List.set_cons_zero, List.set_cons_succ, i64_w, i32_w]
       rfl
      refine pure_ (i := 7) (N := some 145) (v := ?_) (a' := ?_) #[true, true, true, true, true, true, true, true, false, false, false, false, false] rfl rfl (any_of HT_.out (by kernel_rfl)) (fun _ _ _ h => h) (Or.inl ⟨by rfl, ?_⟩) ?_ ?_
      rotate_left
      ·intro w'
       go_simp
       with_reducible rfl
      rotate_left
      ·simp only [Act.put, List.setIfInBounds_toArray, List.set_cons_zero, List.set_cons_succ, i64_w, i32_w]
       rfl
      refine pure_ (i := 8) (N := some 146) (v := ?_) (a' := ?_) #[true, true, true, true, true, true, true, true, true, false, false, false, false] rfl rfl (any_of HT_.out (by kernel_rfl)) (fun _ _ _ h => h) (Or.inl ⟨by rfl, ?_⟩) ?_ ?_
      rotate_left
      ·intro w'
       go_simp
       with_reducible rfl
      rotate_left
      ·simp only [Act.put, List.setIfInBounds_toArray, List.set_cons_zero, List.set_cons_succ, i64_w, i32_w]
       rfl
      refine pure_ (i := 9) (N := some 147) (v := ?_) (a' := ?_) #[true, true, true, true, true, true, true, true, true, true, false, false, false] rfl rfl (any_of HT_.out (by kernel_rfl)) (fun _ _ _ h => h) (Or.inl ⟨by rfl, ?_⟩) ?_ ?_
      rotate_left
      ·intro w'
       go_simp
       with_reducible rfl
      rotate_left
      ·simp only [Act.put, List.setIfInBounds_toArray, List.set_cons_zero, List.set_cons_succ, i64_w, i32_w]
       rfl
      refine pure_ (i := 10) (N := some 148) (v := ?_) (a' := ?_) #[true, true, true, true, true, true, true, true, true, true, true, false, false] rfl rfl (any_of HT_.out (by kernel_rfl)) (fun _ _ _ h => h) (Or.inl ⟨by rfl, ?_⟩) ?_ ?_
      rotate_left
      ·intro w'
       go_simp
       with_reducible rfl
      rotate_left
      ·simp only [Act.put, List.setIfInBounds_toArray, List.set_cons_zero, List.set_cons_succ, i64_w, i32_w]
       rfl
      refine pure_ (i := 11) (N := some 149) (v := ?_) (a' := ?_) #[true, true, true, true, true, true, true, true, true, true, true, true, false] rfl rfl (any_of HT_.out (by kernel_rfl)) (fun _ _ _ h => h) (Or.inl ⟨by rfl, ?_⟩) ?_ ?_
      rotate_left
      ·intro w'
       go_simp
       with_reducible rfl
      rotate_left
      ·simp only [Act.put, List.setIfInBounds_toArray, List.set_cons_zero, List.set_cons_succ, i64_w, i32_w]
       rfl
      refine last_ (i := 12) (N := some 150) #[true, true, true, true, true, true, true, true, true, true, true, true, true] rfl rfl (one_of HT_.out (by kernel_rfl)) (by decide) (fun K hK => ?_)
      refine goes_ Try.func140 (by kernel_rfl) rfl #[.agg #[.slice AP pages.length cP, .slice AL late.length cL], .int .i64 kid, .int .i64 (wrap64 (deep + 1)), .string key, .string nx, .bool true, .pointer (some ⟨g, 0, none⟩)] (by rfl) rfl rfl (by (try simp only [List.map_toArray, List.map_cons, List.map_nil]); first | done | rfl) ?_
      with_reducible refine (walk_arg (HREC.out ⟨pgi, pri, dpi, ordi, badi⟩ kid key nx true _ Agk cgk Apk cpk Adk cdk HQ.out.1 HQ.out.2.1 HQ.out.2.2 Td.out) HWD.out).mono ?_
      rintro e w6 ⟨rfl, Agn, cgn, Apn, cpn, Adn, cdn, TN, FN⟩
      refine ⟨_, rfl, ?_⟩
      have TN' := Aside0.mk TN
      have FN' := Aside0.mk FN
      clear TN FN
      refine hK.out _ _ ?_
      clear hK K
      refine norm_ (a' := ?_) ?_ ?_
      rotate_left
      ·show Act.put _ (some 150) _ = _
       simp only [Act.put, List.setIfInBounds_toArray, List.set_cons_zero, List.set_cons_succ, i64_w, i32_w]
       rfl
      refine done_ (done_of HT_.out (by kernel_rfl)) ?_
      have HLN := Aside0.mk (HLEN.out ⟨pgi, pri, dpi, ordi, badi⟩ kid key nx true)
      rw [HLE.out, HMO.out.1, HMO.out.2] at HSTEP
      obtain ⟨sn, hsn⟩ : ∃ z, sw rn f ⟨pgi, pri, dpi, ordi, badi⟩ kid (deep + 1) key nx true = z := ⟨_, rfl⟩
      rw [hsn] at TN' FN' HLN HSTEP
      clear hsn
      obtain ⟨pgn, prn, dpn, ordn, badn⟩ := sn
      simp only at TN' FN' HLN
      have B7 := Aside0.mk (blk_fr FN'.out Td.out Bd.out (by decide))
      have Bb7 := Aside0.mk (blk_fr FN'.out Td.out Bb.out (by decide))
      have R17 := Aside0.mk (R9_fr FN'.out Td.out (by decide) Rd1.out)
      have R37 := Aside0.mk (R3_fr FN'.out Td.out (by decide) Rd3.out.1 Rd3.out.2.1 Rd3.out.2.2)
      have F7 := Aside0.mk (Fd.out.trans FN'.out)
      clear Td Bd Bb Rd1 Rd3 Fd FN' hHeld
      go_wp2
      have HW1 := Aside0.mk hw1
      clear hw1 hw2
      go_roundg (keys.length - m)
      case measure => have := HM.out; omega
      case rel =>
       have hln := HLN.out
       have hml := HLK.out
       have hmm := HM.out
       subst hmm
       have e1 : (kk + 1) * N = kk * N + N := Nat.succ_mul _ _
       have e2 : (kk + 1) * (4 * N) = kk * (4 * N) + 4 * N := Nat.succ_mul _ _
       exact ⟨kk + 1, ⟨pgn, prn, dpn, ordn, badn⟩, Agn, cgn, Apn, cpn, Adn, cdn, by omega, by omega, by first | rfl | exact congrArg (Value.int .i64) HW1.out, TN', B7, Bb7, R17, R37, F7, HSTEP, ⟨by show pgn.length ≤ _; rw [e1]; omega, by show prn.length ≤ _; rw [e2]; omega, by show dpn.length ≤ _; rw [e1]; omega⟩⟩
     | true =>
      cases hb2 : Op.bytesLess nx.toList high.toList with
      | true =>
       have HMORE := Aside0.mk (show moreB keys high true kk = true by unfold moreB; rw [HNEXT.out, ← HM.out, decide_eq_true hnx, hb2]; rfl)
       go_upto_region 21 with (fail)
       clear hn1 hn0 hk1
       have HMO := Aside0.mk (show nextB keys high true kk = nx ∧ (true || moreB keys high true kk) = true by unfold nextB; rw [HMORE.out]; exact ⟨(if_pos rfl).trans HNEXT.out, rfl⟩)
       have Td := Aside0.mk TK.out.drew
       have Bd := Aside0.mk (blk_below BNK.out (Below.refl _ _).drew)
       have Bb := Aside0.mk (blk_below BDK.out (Below.refl _ _).drew)
       have Rd1 := Aside0.mk (Kd.R_below R1K.out (Below.refl _ _).drew)
       have Rd3 := Aside0.mk (And.intro (Kd.R_below R3K.out.1 (Below.refl _ _).drew) R3K.out.2)
       have Fd := Aside0.mk (HFK.out.below (Below.refl _ _).drew)
       clear TK BNK BDK R1K R3K HFK
       refine start_ (n := 13) (S := fun w' => w'.cell? ⟨gD, 0, none⟩ = some (.slice AP pages.length cP) ∧ w'.cell? ⟨gD, 1, none⟩ = some (.slice AL late.length cL) ∧ w'.cell? ⟨gN, 3, none⟩ = some (.slice (some ad3) kids.length c3) ∧ w'.cell? (ad3.add kk) = some (.int .i64 kid)) (ds := [12]) #[false, false, false, false, false, false, false, false, false, false, false, false, false] (by kernel_rfl) rfl rfl ⟨(blk_cell Bb.out 0).trans rfl, (blk_cell Bb.out 1).trans rfl, (blk_cell Bd.out 3).trans rfl, (seen_int Rd3.out.1 hlk).trans (by rw [HKID2.out])⟩ (fun hHeld => ?_); refine with_tabW spec_l07Walk.tab21 spec_l07Walk.bits21 (fun HT_ HW_ => ?_)
       generalize wr.drew = wd at Td Bd Bb Rd1 Rd3 Fd hHeld ⊢
       refine take_ (i := 0) (N := some 138) (v := ?_) (a' := ?_) #[true, false, false, false, false, false, false, false, false, false, false, false, false] rfl rfl (take_ofW HT_.out HW_.out (by kernel_rfl)) (fun _ _ _ h => h) (Or.inl ⟨by rfl, ?_⟩) hHeld ?_ ?_
       rotate_left
       ·rintro w' ⟨s0, s1, s2, s3⟩
        go_simp
        with_reducible rfl
       rotate_left
       ·simp only [Act.put, List.setIfInBounds_toArray, List.set_cons_zero, List.set_cons_succ, i64_w, i32_w]
        rfl
       refine pure_ (i := 1) (N := some 139) (v := ?_) (a' := ?_) #[true, true, false, false, false, false, false, false, false, false, false, false, false] rfl rfl (any_of HT_.out (by kernel_rfl)) (fun _ _ _ h => h) (Or.inl ⟨by rfl, ?_⟩) ?_ ?_
       rotate_left
       ·intro w'
        go_simp
        with_reducible rfl
       rotate_left
       ·simp only [Act.put, List.setIfInBounds_toArray, List.set_cons_zero, List.set_cons_succ, i64_w, i32_w]
        rfl
       refine take_ (i := 2) (N := some 140) (v := ?_) (a' := ?_) #[true, true, true, false, false, false, false, false, false, false, false, false, false] rfl rfl (take_ofW HT_.out HW_.out (by kernel_rfl)) (fun _ _ _ h => h) (Or.inl ⟨by rfl, ?_⟩) hHeld ?_ ?_
       rotate_left
       ·rintro w' ⟨s0, s1, s2, s3⟩
        go_simp
        with_reducible rfl
       rotate_left
       ·simp only [Act.put, List.setIfInBounds_toArray, List.set_cons_zero, List.set_cons_succ, i64_w, i32_w]
        rfl
       refine pure_ (i := 3) (N := some 141) (v := ?_) (a' := ?_) #[true, true, true, true, false, false, false, false, false, false, false, false, false] rfl rfl (any_of HT_.out (by kernel_rfl)) (fun _ _ _ h => h) (Or.inl ⟨by rfl, ?_⟩) ?_ ?_
       rotate_left
       ·intro w'
        go_simp
        with_reducible rfl
       rotate_left
       ·simp only [Act.put, List.setIfInBounds_toArray, List.set_cons_zero, List.set_cons_succ, i64_w, i32_w]
        rfl
       refine pure_ (i := 4) (N := some 142) (v := ?_) (a' := ?_) #[true, true, true, true, true, false, false, false, false, false, false, false, false] rfl rfl (any_of HT_.out (by kernel_rfl)) (fun _ _ _ h => h) (Or.inl ⟨by rfl, ?_⟩) ?_ ?_
       rotate_left
       ·intro w'
        go_simp
        with_reducible rfl
       rotate_left
       ·simp only [Act.put, List.setIfInBounds_toArray, List.set_cons_zero, List.set_cons_succ, i64_w, i32_w]
        rfl
       refine take_ (i := 5) (N := some 143) (v := ?_) (a' := ?_) #[true, true, true, true, true, true, false, false, false, false, false, false, false] rfl rfl (take_ofW HT_.out HW_.out (by kernel_rfl)) (fun _ _ _ h => h) (Or.inl ⟨by rfl, ?_⟩) hHeld ?_ ?_
       rotate_left
       ·rintro w' ⟨s0, s1, s2, s3⟩
        go_simp
        with_reducible rfl
       rotate_left
       ·simp only [Act.put, List.setIfInBounds_toArray, List.set_cons_zero, List.set_cons_succ, i64_w, i32_w]
        rfl
       refine pure_ (i := 6) (N := some 144) (v := ?_) (a' := ?_) #[true, true, true, true, true, true, true, false, false, false, false, false, false] rfl rfl (any_of HT_.out (by kernel_rfl)) (fun _ _ _ h => h) (Or.inl ⟨by rfl, ?_⟩) ?_ ?_
       rotate_left
       ·intro w'
        go_simp
        with_reducible rfl
       rotate_left
       ·simp only [Act.put, List.setIfInBounds_toArray, List.set_cons_zero, List.set_cons_succ, i64_w, i32_w]
        rfl
       refine pure_ (i := 7) (N := some 145) (v := ?_) (a' := ?_) #[true, true, true, true, true, true, true, true, false, false, false, false, false] rfl rfl (any_of HT_.out (by kernel_rfl)) (fun _ _ _ h => h) (Or.inl ⟨by rfl, ?_⟩) ?_ ?_
       rotate_left
       ·intro w'
        go_simp
        with_reducible rfl
       rotate_left
       ·simp only [Act.put, List.setIfInBounds_toArray, List.set_cons_zero, List.set_cons_succ, i64_w, i32_w]
        rfl
       refine pure_ (i := 8) (N := some 146) (v := ?_) (a' := ?_) #[true, true, true, true, true, true, true, true, true, false, false, false, false] rfl rfl (any_of HT_.out (by kernel_rfl)) (fun _ _ _ h => h) (Or.inl ⟨by rfl, ?_⟩) ?_ ?_
       rotate_left
       ·intro w'
        go_simp
        with_reducible rfl
       rotate_left
       ·simp only [Act.put, List.setIfInBounds_toArray, List.set_cons_zero, List.set_cons_succ, i64_w, i32_w]
        rfl
       refine pure_ (i := 9) (N := some 147) (v := ?_) (a' := ?_) #[true, true, true, true, true, true, true, true, true, true, false, false, false] rfl rfl (any_of HT_.out (by kernel_rfl)) (fun _ _ _ h => h) (Or.inl ⟨by rfl, ?_⟩) ?_ ?_
       rotate_left
       ·intro w'
        go_simp
        with_reducible rfl
       rotate_left
       ·simp only [Act.put, List.setIfInBounds_toArray, List.set_cons_zero, List.set_cons_succ, i64_w, i32_w]
        rfl
       refine pure_ (i := 10) (N := some 148) (v := ?_) (a' := ?_) #[true, true, true, true, true, true, true, true, true, true, true, false, false] rfl rfl (any_of HT_.out (by kernel_rfl)) (fun _ _ _ h => h) (Or.inl ⟨by rfl, ?_⟩) ?_ ?_
       rotate_left
       ·intro w'
        go_simp
        with_reducible rfl
       rotate_left
       ·simp only [Act.put, List.setIfInBounds_toArray, List.set_cons_zero, List.set_cons_succ, i64_w, i32_w]
        rfl
       refine pure_ (i := 11) (N := some 149) (v := ?_) (a' := ?_) #[true, true, true, true, true, true, true, true, true, true, true, true, false] rfl rfl (any_of HT_.out (by kernel_rfl)) (fun _ _ _ h => h) (Or.inl ⟨by rfl, ?_⟩) ?_ ?_
       rotate_left
       ·intro w'
        go_simp
        with_reducible rfl
       rotate_left
       ·simp only [Act.put, List.setIfInBounds_toArray, List.set_cons_zero, List.set_cons_succ, i64_w, i32_w]
        rfl
       refine last_ (i := 12) (N := some 150) #[true, true, true, true, true, true, true, true, true, true, true, true, true] rfl rfl (one_of HT_.out (by kernel_rfl)) (by decide) (fun K hK => ?_)
       refine goes_ Try.func140 (by kernel_rfl) rfl #[.agg #[.slice AP pages.length cP, .slice AL late.length cL], .int .i64 kid, .int .i64 (wrap64 (deep + 1)), .string key, .string nx, .bool true, .pointer (some ⟨g, 0, none⟩)] (by rfl) rfl rfl (by (try simp only [List.map_toArray, List.map_cons, List.map_nil]); first | done | rfl) ?_
       with_reducible refine (walk_arg (HREC.out ⟨pgi, pri, dpi, ordi, badi⟩ kid key nx true _ Agk cgk Apk cpk Adk cdk HQ.out.1 HQ.out.2.1 HQ.out.2.2 Td.out) HWD.out).mono ?_
       rintro e w6 ⟨rfl, Agn, cgn, Apn, cpn, Adn, cdn, TN, FN⟩
       refine ⟨_, rfl, ?_⟩
       have TN' := Aside0.mk TN
       have FN' := Aside0.mk FN
       clear TN FN
       refine hK.out _ _ ?_
       clear hK K
       refine norm_ (a' := ?_) ?_ ?_
       rotate_left
       ·show Act.put _ (some 150) _ = _
        simp only [Act.put, List.setIfInBounds_toArray, List.set_cons_zero, List.set_cons_succ, i64_w, i32_w]
        rfl
       refine done_ (done_of HT_.out (by kernel_rfl)) ?_
       have HLN := Aside0.mk (HLEN.out ⟨pgi, pri, dpi, ordi, badi⟩ kid key nx true)
       rw [HLE.out, HMO.out.1, HMO.out.2] at HSTEP
       obtain ⟨sn, hsn⟩ : ∃ z, sw rn f ⟨pgi, pri, dpi, ordi, badi⟩ kid (deep + 1) key nx true = z := ⟨_, rfl⟩
       rw [hsn] at TN' FN' HLN HSTEP
       clear hsn
       obtain ⟨pgn, prn, dpn, ordn, badn⟩ := sn
       simp only at TN' FN' HLN
       have B7 := Aside0.mk (blk_fr FN'.out Td.out Bd.out (by decide))
       have Bb7 := Aside0.mk (blk_fr FN'.out Td.out Bb.out (by decide))
       have R17 := Aside0.mk (R9_fr FN'.out Td.out (by decide) Rd1.out)
       have R37 := Aside0.mk (R3_fr FN'.out Td.out (by decide) Rd3.out.1 Rd3.out.2.1 Rd3.out.2.2)
       have F7 := Aside0.mk (Fd.out.trans FN'.out)
       clear Td Bd Bb Rd1 Rd3 Fd FN' hHeld
       go_wp2
       have HW1 := Aside0.mk hw1
       clear hw1 hw2
       go_roundg (keys.length - m)
       case measure => have := HM.out; omega
       case rel =>
        have hln := HLN.out
        have hml := HLK.out
        have hmm := HM.out
        subst hmm
        have e1 : (kk + 1) * N = kk * N + N := Nat.succ_mul _ _
        have e2 : (kk + 1) * (4 * N) = kk * (4 * N) + 4 * N := Nat.succ_mul _ _
        exact ⟨kk + 1, ⟨pgn, prn, dpn, ordn, badn⟩, Agn, cgn, Apn, cpn, Adn, cdn, by omega, by omega, by first | rfl | exact congrArg (Value.int .i64) HW1.out, TN', B7, Bb7, R17, R37, F7, HSTEP, ⟨by show pgn.length ≤ _; rw [e1]; omega, by show prn.length ≤ _; rw [e2]; omega, by show dpn.length ≤ _; rw [e1]; omega⟩⟩
      | false =>
       have HMORE := Aside0.mk (show moreB keys high true kk = false by unfold moreB; rw [HNEXT.out, ← HM.out, decide_eq_true hnx, hb2]; rfl)
       go_upto_region 21 with (fail)
       clear hn1 hn0 hk1
       have HMO := Aside0.mk (show nextB keys high true kk = high ∧ (true || moreB keys high true kk) = true by unfold nextB; rw [HMORE.out]; exact ⟨if_neg (by simp), rfl⟩)
       have Td := Aside0.mk TK.out.drew
       have Bd := Aside0.mk (blk_below BNK.out (Below.refl _ _).drew)
       have Bb := Aside0.mk (blk_below BDK.out (Below.refl _ _).drew)
       have Rd1 := Aside0.mk (Kd.R_below R1K.out (Below.refl _ _).drew)
       have Rd3 := Aside0.mk (And.intro (Kd.R_below R3K.out.1 (Below.refl _ _).drew) R3K.out.2)
       have Fd := Aside0.mk (HFK.out.below (Below.refl _ _).drew)
       clear TK BNK BDK R1K R3K HFK
       refine start_ (n := 13) (S := fun w' => w'.cell? ⟨gD, 0, none⟩ = some (.slice AP pages.length cP) ∧ w'.cell? ⟨gD, 1, none⟩ = some (.slice AL late.length cL) ∧ w'.cell? ⟨gN, 3, none⟩ = some (.slice (some ad3) kids.length c3) ∧ w'.cell? (ad3.add kk) = some (.int .i64 kid)) (ds := [12]) #[false, false, false, false, false, false, false, false, false, false, false, false, false] (by kernel_rfl) rfl rfl ⟨(blk_cell Bb.out 0).trans rfl, (blk_cell Bb.out 1).trans rfl, (blk_cell Bd.out 3).trans rfl, (seen_int Rd3.out.1 hlk).trans (by rw [HKID2.out])⟩ (fun hHeld => ?_); refine with_tabW spec_l07Walk.tab21 spec_l07Walk.bits21 (fun HT_ HW_ => ?_)
       generalize wr.drew = wd at Td Bd Bb Rd1 Rd3 Fd hHeld ⊢
       refine take_ (i := 0) (N := some 138) (v := ?_) (a' := ?_) #[true, false, false, false, false, false, false, false, false, false, false, false, false] rfl rfl (take_ofW HT_.out HW_.out (by kernel_rfl)) (fun _ _ _ h => h) (Or.inl ⟨by rfl, ?_⟩) hHeld ?_ ?_
       rotate_left
       ·rintro w' ⟨s0, s1, s2, s3⟩
        go_simp
        with_reducible rfl
       rotate_left
       ·simp only [Act.put, List.setIfInBounds_toArray, List.set_cons_zero, List.set_cons_succ, i64_w, i32_w]
        rfl
       refine pure_ (i := 1) (N := some 139) (v := ?_) (a' := ?_) #[true, true, false, false, false, false, false, false, false, false, false, false, false] rfl rfl (any_of HT_.out (by kernel_rfl)) (fun _ _ _ h => h) (Or.inl ⟨by rfl, ?_⟩) ?_ ?_
       rotate_left
       ·intro w'
        go_simp
        with_reducible rfl
       rotate_left
       ·simp only [Act.put, List.setIfInBounds_toArray, List.set_cons_zero, List.set_cons_succ, i64_w, i32_w]
        rfl
       refine take_ (i := 2) (N := some 140) (v := ?_) (a' := ?_) #[true, true, true, false, false, false, false, false, false, false, false, false, false] rfl rfl (take_ofW HT_.out HW_.out (by kernel_rfl)) (fun _ _ _ h => h) (Or.inl ⟨by rfl, ?_⟩) hHeld ?_ ?_
       rotate_left
       ·rintro w' ⟨s0, s1, s2, s3⟩
        go_simp
        with_reducible rfl
       rotate_left
       ·simp only [Act.put, List.setIfInBounds_toArray, List.set_cons_zero, List.set_cons_succ, i64_w, i32_w]
        rfl
       refine pure_ (i := 3) (N := some 141) (v := ?_) (a' := ?_) #[true, true, true, true, false, false, false, false, false, false, false, false, false] rfl rfl (any_of HT_.out (by kernel_rfl)) (fun _ _ _ h => h) (Or.inl ⟨by rfl, ?_⟩) ?_ ?_
       rotate_left
       ·intro w'
        go_simp
        with_reducible rfl
       rotate_left
       ·simp only [Act.put, List.setIfInBounds_toArray, List.set_cons_zero, List.set_cons_succ, i64_w, i32_w]
        rfl
       refine pure_ (i := 4) (N := some 142) (v := ?_) (a' := ?_) #[true, true, true, true, true, false, false, false, false, false, false, false, false] rfl rfl (any_of HT_.out (by kernel_rfl)) (fun _ _ _ h => h) (Or.inl ⟨by rfl, ?_⟩) ?_ ?_
       rotate_left
       ·intro w'
        go_simp
        with_reducible rfl
       rotate_left
       ·simp only [Act.put, List.setIfInBounds_toArray, List.set_cons_zero, List.set_cons_succ, i64_w, i32_w]
        rfl
       refine take_ (i := 5) (N := some 143) (v := ?_) (a' := ?_) #[true, true, true, true, true, true, false, false, false, false, false, false, false] rfl rfl (take_ofW HT_.out HW_.out (by kernel_rfl)) (fun _ _ _ h => h) (Or.inl ⟨by rfl, ?_⟩) hHeld ?_ ?_
       rotate_left
       ·rintro w' ⟨s0, s1, s2, s3⟩
        go_simp
        with_reducible rfl
       rotate_left
       ·simp only [Act.put, List.setIfInBounds_toArray, List.set_cons_zero, List.set_cons_succ, i64_w, i32_w]
        rfl
       refine pure_ (i := 6) (N := some 144) (v := ?_) (a' := ?_) #[true, true, true, true, true, true, true, false, false, false, false, false, false] rfl rfl (any_of HT_.out (by kernel_rfl)) (fun _ _ _ h => h) (Or.inl ⟨by rfl, ?_⟩) ?_ ?_
       rotate_left
       ·intro w'
        go_simp
        with_reducible rfl
       rotate_left
       ·simp only [Act.put, List.setIfInBounds_toArray, List.set_cons_zero, List.set_cons_succ, i64_w, i32_w]
        rfl
       refine pure_ (i := 7) (N := some 145) (v := ?_) (a' := ?_) #[true, true, true, true, true, true, true, true, false, false, false, false, false] rfl rfl (any_of HT_.out (by kernel_rfl)) (fun _ _ _ h => h) (Or.inl ⟨by rfl, ?_⟩) ?_ ?_
       rotate_left
       ·intro w'
        go_simp
        with_reducible rfl
       rotate_left
       ·simp only [Act.put, List.setIfInBounds_toArray, List.set_cons_zero, List.set_cons_succ, i64_w, i32_w]
        rfl
       refine pure_ (i := 8) (N := some 146) (v := ?_) (a' := ?_) #[true, true, true, true, true, true, true, true, true, false, false, false, false] rfl rfl (any_of HT_.out (by kernel_rfl)) (fun _ _ _ h => h) (Or.inl ⟨by rfl, ?_⟩) ?_ ?_
       rotate_left
       ·intro w'
        go_simp
        with_reducible rfl
       rotate_left
       ·simp only [Act.put, List.setIfInBounds_toArray, List.set_cons_zero, List.set_cons_succ, i64_w, i32_w]
        rfl
       refine pure_ (i := 9) (N := some 147) (v := ?_) (a' := ?_) #[true, true, true, true, true, true, true, true, true, true, false, false, false] rfl rfl (any_of HT_.out (by kernel_rfl)) (fun _ _ _ h => h) (Or.inl ⟨by rfl, ?_⟩) ?_ ?_
       rotate_left
       ·intro w'
        go_simp
        with_reducible rfl
       rotate_left
       ·simp only [Act.put, List.setIfInBounds_toArray, List.set_cons_zero, List.set_cons_succ, i64_w, i32_w]
        rfl
       refine pure_ (i := 10) (N := some 148) (v := ?_) (a' := ?_) #[true, true, true, true, true, true, true, true, true, true, true, false, false] rfl rfl (any_of HT_.out (by kernel_rfl)) (fun _ _ _ h => h) (Or.inl ⟨by rfl, ?_⟩) ?_ ?_
       rotate_left
       ·intro w'
        go_simp
        with_reducible rfl
       rotate_left
       ·simp only [Act.put, List.setIfInBounds_toArray, List.set_cons_zero, List.set_cons_succ, i64_w, i32_w]
        rfl
       refine pure_ (i := 11) (N := some 149) (v := ?_) (a' := ?_) #[true, true, true, true, true, true, true, true, true, true, true, true, false] rfl rfl (any_of HT_.out (by kernel_rfl)) (fun _ _ _ h => h) (Or.inl ⟨by rfl, ?_⟩) ?_ ?_
       rotate_left
       ·intro w'
        go_simp
        with_reducible rfl
       rotate_left
       ·simp only [Act.put, List.setIfInBounds_toArray, List.set_cons_zero, List.set_cons_succ, i64_w, i32_w]
        rfl
       refine last_ (i := 12) (N := some 150) #[true, true, true, true, true, true, true, true, true, true, true, true, true] rfl rfl (one_of HT_.out (by kernel_rfl)) (by decide) (fun K hK => ?_)
       refine goes_ Try.func140 (by kernel_rfl) rfl #[.agg #[.slice AP pages.length cP, .slice AL late.length cL], .int .i64 kid, .int .i64 (wrap64 (deep + 1)), .string key, .string high, .bool true, .pointer (some ⟨g, 0, none⟩)] (by rfl) rfl rfl (by (try simp only [List.map_toArray, List.map_cons, List.map_nil]); first | done | rfl) ?_
       with_reducible refine (walk_arg (HREC.out ⟨pgi, pri, dpi, ordi, badi⟩ kid key high true _ Agk cgk Apk cpk Adk cdk HQ.out.1 HQ.out.2.1 HQ.out.2.2 Td.out) HWD.out).mono ?_
       rintro e w6 ⟨rfl, Agn, cgn, Apn, cpn, Adn, cdn, TN, FN⟩
       refine ⟨_, rfl, ?_⟩
       have TN' := Aside0.mk TN
       have FN' := Aside0.mk FN
       clear TN FN
       refine hK.out _ _ ?_
       clear hK K
       refine norm_ (a' := ?_) ?_ ?_
       rotate_left
       ·show Act.put _ (some 150) _ = _
        simp only [Act.put, List.setIfInBounds_toArray, List.set_cons_zero, List.set_cons_succ, i64_w, i32_w]
        rfl
       refine done_ (done_of HT_.out (by kernel_rfl)) ?_
       have HLN := Aside0.mk (HLEN.out ⟨pgi, pri, dpi, ordi, badi⟩ kid key high true)
       rw [HLE.out, HMO.out.1, HMO.out.2] at HSTEP
       obtain ⟨sn, hsn⟩ : ∃ z, sw rn f ⟨pgi, pri, dpi, ordi, badi⟩ kid (deep + 1) key high true = z := ⟨_, rfl⟩
       rw [hsn] at TN' FN' HLN HSTEP
       clear hsn
       obtain ⟨pgn, prn, dpn, ordn, badn⟩ := sn
       simp only at TN' FN' HLN
       have B7 := Aside0.mk (blk_fr FN'.out Td.out Bd.out (by decide))
       have Bb7 := Aside0.mk (blk_fr FN'.out Td.out Bb.out (by decide))
       have R17 := Aside0.mk (R9_fr FN'.out Td.out (by decide) Rd1.out)
       have R37 := Aside0.mk (R3_fr FN'.out Td.out (by decide) Rd3.out.1 Rd3.out.2.1 Rd3.out.2.2)
       have F7 := Aside0.mk (Fd.out.trans FN'.out)
       clear Td Bd Bb Rd1 Rd3 Fd FN' hHeld
       go_wp2
       have HW1 := Aside0.mk hw1
       clear hw1 hw2
       go_roundg (keys.length - m)
       case measure => have := HM.out; omega
       case rel =>
        have hln := HLN.out
        have hml := HLK.out
        have hmm := HM.out
        subst hmm
        have e1 : (kk + 1) * N = kk * N + N := Nat.succ_mul _ _
        have e2 : (kk + 1) * (4 * N) = kk * (4 * N) + 4 * N := Nat.succ_mul _ _
        exact ⟨kk + 1, ⟨pgn, prn, dpn, ordn, badn⟩, Agn, cgn, Apn, cpn, Adn, cdn, by omega, by omega, by first | rfl | exact congrArg (Value.int .i64) HW1.out, TN', B7, Bb7, R17, R37, F7, HSTEP, ⟨by show pgn.length ≤ _; rw [e1]; omega, by show prn.length ≤ _; rw [e2]; omega, by show dpn.length ≤ _; rw [e1]; omega⟩⟩
    ·have hnxz : ¬ (m : Int) < (keys.length : Int) := by omega
     have HMORE := Aside0.mk (show moreB keys high has kk = false by unfold moreB; rw [← HM.out, decide_eq_false hnx]; rfl)
     go_upto_region 21 with (fail)
     clear hn1 hn0 hk1
     have HMO := Aside0.mk (show nextB keys high has kk = high ∧ (has || moreB keys high has kk) = has by unfold nextB; rw [HMORE.out]; exact ⟨if_neg (by simp), by simp⟩)
     have Td := Aside0.mk TK.out.drew
     have Bd := Aside0.mk (blk_below BNK.out (Below.refl _ _).drew)
     have Bb := Aside0.mk (blk_below BDK.out (Below.refl _ _).drew)
     have Rd1 := Aside0.mk (Kd.R_below R1K.out (Below.refl _ _).drew)
     have Rd3 := Aside0.mk (And.intro (Kd.R_below R3K.out.1 (Below.refl _ _).drew) R3K.out.2)
     have Fd := Aside0.mk (HFK.out.below (Below.refl _ _).drew)
     clear TK BNK BDK R1K R3K HFK
     refine start_ (n := 13) (S := fun w' => w'.cell? ⟨gD, 0, none⟩ = some (.slice AP pages.length cP) ∧ w'.cell? ⟨gD, 1, none⟩ = some (.slice AL late.length cL) ∧ w'.cell? ⟨gN, 3, none⟩ = some (.slice (some ad3) kids.length c3) ∧ w'.cell? (ad3.add kk) = some (.int .i64 kid)) (ds := [12]) #[false, false, false, false, false, false, false, false, false, false, false, false, false] (by kernel_rfl) rfl rfl ⟨(blk_cell Bb.out 0).trans rfl, (blk_cell Bb.out 1).trans rfl, (blk_cell Bd.out 3).trans rfl, (seen_int Rd3.out.1 hlk).trans (by rw [HKID2.out])⟩ (fun hHeld => ?_); refine with_tabW spec_l07Walk.tab21 spec_l07Walk.bits21 (fun HT_ HW_ => ?_)
     generalize wr.drew = wd at Td Bd Bb Rd1 Rd3 Fd hHeld ⊢
     refine take_ (i := 0) (N := some 138) (v := ?_) (a' := ?_) #[true, false, false, false, false, false, false, false, false, false, false, false, false] rfl rfl (take_ofW HT_.out HW_.out (by kernel_rfl)) (fun _ _ _ h => h) (Or.inl ⟨by rfl, ?_⟩) hHeld ?_ ?_
     rotate_left
     ·rintro w' ⟨s0, s1, s2, s3⟩
      go_simp
      with_reducible rfl
     rotate_left
     ·simp only [Act.put, List.setIfInBounds_toArray, List.set_cons_zero, List.set_cons_succ, i64_w, i32_w]
      rfl
     refine pure_ (i := 1) (N := some 139) (v := ?_) (a' := ?_) #[true, true, false, false, false, false, false, false, false, false, false, false, false] rfl rfl (any_of HT_.out (by kernel_rfl)) (fun _ _ _ h => h) (Or.inl ⟨by rfl, ?_⟩) ?_ ?_
     rotate_left
     ·intro w'
      go_simp
      with_reducible rfl
     rotate_left
     ·simp only [Act.put, List.setIfInBounds_toArray, List.set_cons_zero, List.set_cons_succ, i64_w, i32_w]
      rfl
     refine take_ (i := 2) (N := some 140) (v := ?_) (a' := ?_) #[true, true, true, false, false, false, false, false, false, false, false, false, false] rfl rfl (take_ofW HT_.out HW_.out (by kernel_rfl)) (fun _ _ _ h => h) (Or.inl ⟨by rfl, ?_⟩) hHeld ?_ ?_
     rotate_left
     ·rintro w' ⟨s0, s1, s2, s3⟩
      go_simp
      with_reducible rfl
     rotate_left
     ·simp only [Act.put, List.setIfInBounds_toArray, List.set_cons_zero, List.set_cons_succ, i64_w, i32_w]
      rfl
     refine pure_ (i := 3) (N := some 141) (v := ?_) (a' := ?_) #[true, true, true, true, false, false, false, false, false, false, false, false, false] rfl rfl (any_of HT_.out (by kernel_rfl)) (fun _ _ _ h => h) (Or.inl ⟨by rfl, ?_⟩) ?_ ?_
     rotate_left
     ·intro w'
      go_simp
      with_reducible rfl
     rotate_left
     ·simp only [Act.put, List.setIfInBounds_toArray, List.set_cons_zero, List.set_cons_succ, i64_w, i32_w]
      rfl
     refine pure_ (i := 4) (N := some 142) (v := ?_) (a' := ?_) #[true, true, true, true, true, false, false, false, false, false, false, false, false] rfl rfl (any_of HT_.out (by kernel_rfl)) (fun _ _ _ h => h) (Or.inl ⟨by rfl, ?_⟩) ?_ ?_
     rotate_left
     ·intro w'
      go_simp
      with_reducible rfl
     rotate_left
     ·simp only [Act.put, List.setIfInBounds_toArray, List.set_cons_zero, List.set_cons_succ, i64_w, i32_w]
      rfl
     refine take_ (i := 5) (N := some 143) (v := ?_) (a' := ?_) #[true, true, true, true, true, true, false, false, false, false, false, false, false] rfl rfl (take_ofW HT_.out HW_.out (by kernel_rfl)) (fun _ _ _ h => h) (Or.inl ⟨by rfl, ?_⟩) hHeld ?_ ?_
     rotate_left
     ·rintro w' ⟨s0, s1, s2, s3⟩
      go_simp
      with_reducible rfl
     rotate_left
     ·simp only [Act.put, List.setIfInBounds_toArray, List.set_cons_zero, List.set_cons_succ, i64_w, i32_w]
      rfl
     refine pure_ (i := 6) (N := some 144) (v := ?_) (a' := ?_) #[true, true, true, true, true, true, true, false, false, false, false, false, false] rfl rfl (any_of HT_.out (by kernel_rfl)) (fun _ _ _ h => h) (Or.inl ⟨by rfl, ?_⟩) ?_ ?_
     rotate_left
     ·intro w'
      go_simp
      with_reducible rfl
     rotate_left
     ·simp only [Act.put, List.setIfInBounds_toArray, List.set_cons_zero, List.set_cons_succ, i64_w, i32_w]
      rfl
     refine pure_ (i := 7) (N := some 145) (v := ?_) (a' := ?_) #[true, true, true, true, true, true, true, true, false, false, false, false, false] rfl rfl (any_of HT_.out (by kernel_rfl)) (fun _ _ _ h => h) (Or.inl ⟨by rfl, ?_⟩) ?_ ?_
     rotate_left
     ·intro w'
      go_simp
      with_reducible rfl
     rotate_left
     ·simp only [Act.put, List.setIfInBounds_toArray, List.set_cons_zero, List.set_cons_succ, i64_w, i32_w]
      rfl
     refine pure_ (i := 8) (N := some 146) (v := ?_) (a' := ?_) #[true, true, true, true, true, true, true, true, true, false, false, false, false] rfl rfl (any_of HT_.out (by kernel_rfl)) (fun _ _ _ h => h) (Or.inl ⟨by rfl, ?_⟩) ?_ ?_
     rotate_left
     ·intro w'
      go_simp
      with_reducible rfl
     rotate_left
     ·simp only [Act.put, List.setIfInBounds_toArray, List.set_cons_zero, List.set_cons_succ, i64_w, i32_w]
      rfl
     refine pure_ (i := 9) (N := some 147) (v := ?_) (a' := ?_) #[true, true, true, true, true, true, true, true, true, true, false, false, false] rfl rfl (any_of HT_.out (by kernel_rfl)) (fun _ _ _ h => h) (Or.inl ⟨by rfl, ?_⟩) ?_ ?_
     rotate_left
     ·intro w'
      go_simp
      with_reducible rfl
     rotate_left
     ·simp only [Act.put, List.setIfInBounds_toArray, List.set_cons_zero, List.set_cons_succ, i64_w, i32_w]
      rfl
     refine pure_ (i := 10) (N := some 148) (v := ?_) (a' := ?_) #[true, true, true, true, true, true, true, true, true, true, true, false, false] rfl rfl (any_of HT_.out (by kernel_rfl)) (fun _ _ _ h => h) (Or.inl ⟨by rfl, ?_⟩) ?_ ?_
     rotate_left
     ·intro w'
      go_simp
      with_reducible rfl
     rotate_left
     ·simp only [Act.put, List.setIfInBounds_toArray, List.set_cons_zero, List.set_cons_succ, i64_w, i32_w]
      rfl
     refine pure_ (i := 11) (N := some 149) (v := ?_) (a' := ?_) #[true, true, true, true, true, true, true, true, true, true, true, true, false] rfl rfl (any_of HT_.out (by kernel_rfl)) (fun _ _ _ h => h) (Or.inl ⟨by rfl, ?_⟩) ?_ ?_
     rotate_left
     ·intro w'
      go_simp
      with_reducible rfl
     rotate_left
     ·simp only [Act.put, List.setIfInBounds_toArray, List.set_cons_zero, List.set_cons_succ, i64_w, i32_w]
      rfl
     refine last_ (i := 12) (N := some 150) #[true, true, true, true, true, true, true, true, true, true, true, true, true] rfl rfl (one_of HT_.out (by kernel_rfl)) (by decide) (fun K hK => ?_)
     refine goes_ Try.func140 (by kernel_rfl) rfl #[.agg #[.slice AP pages.length cP, .slice AL late.length cL], .int .i64 kid, .int .i64 (wrap64 (deep + 1)), .string key, .string high, .bool has, .pointer (some ⟨g, 0, none⟩)] (by rfl) rfl rfl (by (try simp only [List.map_toArray, List.map_cons, List.map_nil]); first | done | rfl) ?_
     with_reducible refine (walk_arg (HREC.out ⟨pgi, pri, dpi, ordi, badi⟩ kid key high has _ Agk cgk Apk cpk Adk cdk HQ.out.1 HQ.out.2.1 HQ.out.2.2 Td.out) HWD.out).mono ?_
     rintro e w6 ⟨rfl, Agn, cgn, Apn, cpn, Adn, cdn, TN, FN⟩
     refine ⟨_, rfl, ?_⟩
     have TN' := Aside0.mk TN
     have FN' := Aside0.mk FN
     clear TN FN
     refine hK.out _ _ ?_
     clear hK K
     refine norm_ (a' := ?_) ?_ ?_
     rotate_left
     ·show Act.put _ (some 150) _ = _
      simp only [Act.put, List.setIfInBounds_toArray, List.set_cons_zero, List.set_cons_succ, i64_w, i32_w]
      rfl
     refine done_ (done_of HT_.out (by kernel_rfl)) ?_
     have HLN := Aside0.mk (HLEN.out ⟨pgi, pri, dpi, ordi, badi⟩ kid key high has)
     rw [HLE.out, HMO.out.1, HMO.out.2] at HSTEP
     obtain ⟨sn, hsn⟩ : ∃ z, sw rn f ⟨pgi, pri, dpi, ordi, badi⟩ kid (deep + 1) key high has = z := ⟨_, rfl⟩
     rw [hsn] at TN' FN' HLN HSTEP
     clear hsn
     obtain ⟨pgn, prn, dpn, ordn, badn⟩ := sn
     simp only at TN' FN' HLN
     have B7 := Aside0.mk (blk_fr FN'.out Td.out Bd.out (by decide))
     have Bb7 := Aside0.mk (blk_fr FN'.out Td.out Bb.out (by decide))
     have R17 := Aside0.mk (R9_fr FN'.out Td.out (by decide) Rd1.out)
     have R37 := Aside0.mk (R3_fr FN'.out Td.out (by decide) Rd3.out.1 Rd3.out.2.1 Rd3.out.2.2)
     have F7 := Aside0.mk (Fd.out.trans FN'.out)
     clear Td Bd Bb Rd1 Rd3 Fd FN' hHeld
     go_wp2
     have HW1 := Aside0.mk hw1
     clear hw1 hw2
     go_roundg (keys.length - m)
     case measure => have := HM.out; omega
     case rel =>
      have hln := HLN.out
      have hml := HLK.out
      have hmm := HM.out
      subst hmm
      have e1 : (kk + 1) * N = kk * N + N := Nat.succ_mul _ _
      have e2 : (kk + 1) * (4 * N) = kk * (4 * N) + 4 * N := Nat.succ_mul _ _
      exact ⟨kk + 1, ⟨pgn, prn, dpn, ordn, badn⟩, Agn, cgn, Apn, cpn, Adn, cdn, by omega, by omega, by first | rfl | exact congrArg (Value.int .i64) HW1.out, TN', B7, Bb7, R17, R37, F7, HSTEP, ⟨by show pgn.length ≤ _; rw [e1]; omega, by show prn.length ≤ _; rw [e2]; omega, by show dpn.length ≤ _; rw [e1]; omega⟩⟩
   | false =>
    have HLE := Aside0.mk (show leastB low key = low by unfold leastB; rw [hless]; exact if_neg (by simp))
    have hgt : ¬ ((!Op.bytesLess key.toList low.toList) = true ∧ (!key.toList == low.toList) = true) := less_tri hless
    have HLS := Aside0.mk hless
    clear hless
    by_cases hnx : m < keys.length
    ·have hnxz : (m : Int) < (keys.length : Int) := by omega
     have hk2 := seen_str R1K.out hnx
     obtain ⟨nx, hnxt⟩ : ∃ nx, keys[m] = nx := ⟨_, rfl⟩
     rw [hnxt] at hk2
     have HNEXT := Aside0.mk (show keys.getD (kk + 1) ByteArray.empty = nx by rw [← HM.out, List.getD_eq_getElem?_getD, List.getElem?_eq_getElem hnx, Option.getD_some, hnxt])
     clear hnxt
     cases has with
     | false =>
      have HMORE := Aside0.mk (show moreB keys high false kk = true by unfold moreB; rw [← HM.out, decide_eq_true hnx]; rfl)
      go_upto_region 21 with (fail)
      clear hn1 hn0 hk1
      have HMO := Aside0.mk (show nextB keys high false kk = nx ∧ (false || moreB keys high false kk) = true by unfold nextB; rw [HMORE.out]; exact ⟨(if_pos rfl).trans HNEXT.out, rfl⟩)
      have Td := Aside0.mk TK.out.drew
      have Bd := Aside0.mk (blk_below BNK.out (Below.refl _ _).drew)
      have Bb := Aside0.mk (blk_below BDK.out (Below.refl _ _).drew)
      have Rd1 := Aside0.mk (Kd.R_below R1K.out (Below.refl _ _).drew)
      have Rd3 := Aside0.mk (And.intro (Kd.R_below R3K.out.1 (Below.refl _ _).drew) R3K.out.2)
      have Fd := Aside0.mk (HFK.out.below (Below.refl _ _).drew)
      clear TK BNK BDK R1K R3K HFK
      refine start_ (n := 13) (S := fun w' => w'.cell? ⟨gD, 0, none⟩ = some (.slice AP pages.length cP) ∧ w'.cell? ⟨gD, 1, none⟩ = some (.slice AL late.length cL) ∧ w'.cell? ⟨gN, 3, none⟩ = some (.slice (some ad3) kids.length c3) ∧ w'.cell? (ad3.add kk) = some (.int .i64 kid)) (ds := [12]) #[false, false, false, false, false, false, false, false, false, false, false, false, false] (by kernel_rfl) rfl rfl ⟨(blk_cell Bb.out 0).trans rfl, (blk_cell Bb.out 1).trans rfl, (blk_cell Bd.out 3).trans rfl, (seen_int Rd3.out.1 hlk).trans (by rw [HKID2.out])⟩ (fun hHeld => ?_); refine with_tabW spec_l07Walk.tab21 spec_l07Walk.bits21 (fun HT_ HW_ => ?_)
      generalize wr.drew = wd at Td Bd Bb Rd1 Rd3 Fd hHeld ⊢
      refine take_ (i := 0) (N := some 138) (v := ?_) (a' := ?_) #[true, false, false, false, false, false, false, false, false, false, false, false, false] rfl rfl (take_ofW HT_.out HW_.out (by kernel_rfl)) (fun _ _ _ h => h) (Or.inl ⟨by rfl, ?_⟩) hHeld ?_ ?_
      rotate_left
      ·rintro w' ⟨s0, s1, s2, s3⟩
       go_simp
       with_reducible rfl
      rotate_left
      ·simp only [Act.put, List.setIfInBounds_toArray, List.set_cons_zero, List.set_cons_succ, i64_w, i32_w]
       rfl
      refine pure_ (i := 1) (N := some 139) (v := ?_) (a' := ?_) #[true, true, false, false, false, false, false, false, false, false, false, false, false] rfl rfl (any_of HT_.out (by kernel_rfl)) (fun _ _ _ h => h) (Or.inl ⟨by rfl, ?_⟩) ?_ ?_
      rotate_left
      ·intro w'
       go_simp
       with_reducible rfl
      rotate_left
      ·simp only [Act.put, List.setIfInBounds_toArray, List.set_cons_zero, List.set_cons_succ, i64_w, i32_w]
       rfl
      refine take_ (i := 2) (N := some 140) (v := ?_) (a' := ?_) #[true, true, true, false, false, false, false, false, false, false, false, false, false] rfl rfl (take_ofW HT_.out HW_.out (by kernel_rfl)) (fun _ _ _ h => h) (Or.inl ⟨by rfl, ?_⟩) hHeld ?_ ?_
      rotate_left
      ·rintro w' ⟨s0, s1, s2, s3⟩
       go_simp
       with_reducible rfl
      rotate_left
      ·simp only [Act.put, List.setIfInBounds_toArray, List.set_cons_zero, List.set_cons_succ, i64_w, i32_w]
       rfl
      refine pure_ (i := 3) (N := some 141) (v := ?_) (a' := ?_) #[true, true, true, true, false, false, false, false, false, false, false, false, false] rfl rfl (any_of HT_.out (by kernel_rfl)) (fun _ _ _ h => h) (Or.inl ⟨by rfl, ?_⟩) ?_ ?_
      rotate_left
      ·intro w'
       go_simp
       with_reducible rfl
      rotate_left
      ·simp only [Act.put, List.setIfInBounds_toArray, List.set_cons_zero, List.set_cons_succ, i64_w, i32_w]
       rfl
      refine pure_ (i := 4) (N := some 142) (v := ?_) (a' := ?_) #[true, true, true, true, true, false, false, false, false, false, false, false, false] rfl rfl (any_of HT_.out (by kernel_rfl)) (fun _ _ _ h => h) (Or.inl ⟨by rfl, ?_⟩) ?_ ?_
      rotate_left
      ·intro w'
       go_simp
       with_reducible rfl
      rotate_left
      ·simp only [Act.put, List.setIfInBounds_toArray, List.set_cons_zero, List.set_cons_succ, i64_w, i32_w]
       rfl
      refine take_ (i := 5) (N := some 143) (v := ?_) (a' := ?_) #[true, true, true, true, true, true, false, false, false, false, false, false, false] rfl rfl (take_ofW HT_.out HW_.out (by kernel_rfl)) (fun _ _ _ h => h) (Or.inl ⟨by rfl, ?_⟩) hHeld ?_ ?_
      rotate_left
      ·rintro w' ⟨s0, s1, s2, s3⟩
       go_simp
       with_reducible rfl
      rotate_left
      ·simp only [Act.put, List.setIfInBounds_toArray, List.set_cons_zero, List.set_cons_succ, i64_w, i32_w]
       rfl
      refine pure_ (i := 6) (N := some 144) (v := ?_) (a' := ?_) #[true, true, true, true, true, true, true, false, false, false, false, false, false] rfl rfl (any_of HT_.out (by kernel_rfl)) (fun _ _ _ h => h) (Or.inl ⟨by rfl, ?_⟩) ?_ ?_
      rotate_left
      ·intro w'
       go_simp
       with_reducible rfl
      rotate_left
      ·simp only [Act.put, List.setIfInBounds_toArray, List.set_cons_zero, List.set_cons_succ, i64_w, i32_w]
       rfl
      refine pure_ (i := 7) (N := some 145) (v := ?_) (a' := ?_) #[true, true, true, true, true, true, true, true, false, false, false, false, false] rfl rfl (any_of HT_.out (by kernel_rfl)) (fun _ _ _ h => h) (Or.inl ⟨by rfl, ?_⟩) ?_ ?_
      rotate_left
      ·intro w'
       go_simp
       with_reducible rfl
      rotate_left
      ·simp only [Act.put, List.setIfInBounds_toArray, List.set_cons_zero, List.set_cons_succ, i64_w, i32_w]
       rfl
      refine pure_ (i := 8) (N := some 146) (v := ?_) (a' := ?_) #[true, true, true, true, true, true, true, true, true, false, false, false, false] rfl rfl (any_of HT_.out (by kernel_rfl)) (fun _ _ _ h => h) (Or.inl ⟨by rfl, ?_⟩) ?_ ?_
      rotate_left
      ·intro w'
       go_simp
       with_reducible rfl
      rotate_left
      ·simp only [Act.put, List.setIfInBounds_toArray, List.set_cons_zero, List.set_cons_succ, i64_w, i32_w]
       rfl
      refine pure_ (i := 9) (N := some 147) (v := ?_) (a' := ?_) #[true, true, true, true, true, true, true, true, true, true, false, false, false] rfl rfl (any_of HT_.out (by kernel_rfl)) (fun _ _ _ h => h) (Or.inl ⟨by rfl, ?_⟩) ?_ ?_
      rotate_left
      ·intro w'
       go_simp
       with_reducible rfl
      rotate_left
      ·simp only [Act.put, List.setIfInBounds_toArray, List.set_cons_zero, List.set_cons_succ, i64_w, i32_w]
       rfl
      refine pure_ (i := 10) (N := some 148) (v := ?_) (a' := ?_) #[true, true, true, true, true, true, true, true, true, true, true, false, false] rfl rfl (any_of HT_.out (by kernel_rfl)) (fun _ _ _ h => h) (Or.inl ⟨by rfl, ?_⟩) ?_ ?_
      rotate_left
      ·intro w'
       go_simp
       with_reducible rfl
      rotate_left
      ·simp only [Act.put, List.setIfInBounds_toArray, List.set_cons_zero, List.set_cons_succ, i64_w, i32_w]
       rfl
      refine pure_ (i := 11) (N := some 149) (v := ?_) (a' := ?_) #[true, true, true, true, true, true, true, true, true, true, true, true, false] rfl rfl (any_of HT_.out (by kernel_rfl)) (fun _ _ _ h => h) (Or.inl ⟨by rfl, ?_⟩) ?_ ?_
      rotate_left
      ·intro w'
       go_simp
       with_reducible rfl
      rotate_left
      ·simp only [Act.put, List.setIfInBounds_toArray, List.set_cons_zero, List.set_cons_succ, i64_w, i32_w]
       rfl
      refine last_ (i := 12) (N := some 150) #[true, true, true, true, true, true, true, true, true, true, true, true, true] rfl rfl (one_of HT_.out (by kernel_rfl)) (by decide) (fun K hK => ?_)
      refine goes_ Try.func140 (by kernel_rfl) rfl #[.agg #[.slice AP pages.length cP, .slice AL late.length cL], .int .i64 kid, .int .i64 (wrap64 (deep + 1)), .string low, .string nx, .bool true, .pointer (some ⟨g, 0, none⟩)] (by rfl) rfl rfl (by (try simp only [List.map_toArray, List.map_cons, List.map_nil]); first | done | rfl) ?_
      with_reducible refine (walk_arg (HREC.out ⟨pgi, pri, dpi, ordi, badi⟩ kid low nx true _ Agk cgk Apk cpk Adk cdk HQ.out.1 HQ.out.2.1 HQ.out.2.2 Td.out) HWD.out).mono ?_
      rintro e w6 ⟨rfl, Agn, cgn, Apn, cpn, Adn, cdn, TN, FN⟩
      refine ⟨_, rfl, ?_⟩
      have TN' := Aside0.mk TN
      have FN' := Aside0.mk FN
      clear TN FN
      refine hK.out _ _ ?_
      clear hK K
      refine norm_ (a' := ?_) ?_ ?_
      rotate_left
      ·show Act.put _ (some 150) _ = _
       simp only [Act.put, List.setIfInBounds_toArray, List.set_cons_zero, List.set_cons_succ, i64_w, i32_w]
       rfl
      refine done_ (done_of HT_.out (by kernel_rfl)) ?_
      have HLN := Aside0.mk (HLEN.out ⟨pgi, pri, dpi, ordi, badi⟩ kid low nx true)
      rw [HLE.out, HMO.out.1, HMO.out.2] at HSTEP
      obtain ⟨sn, hsn⟩ : ∃ z, sw rn f ⟨pgi, pri, dpi, ordi, badi⟩ kid (deep + 1) low nx true = z := ⟨_, rfl⟩
      rw [hsn] at TN' FN' HLN HSTEP
      clear hsn
      obtain ⟨pgn, prn, dpn, ordn, badn⟩ := sn
      simp only at TN' FN' HLN
      have B7 := Aside0.mk (blk_fr FN'.out Td.out Bd.out (by decide))
      have Bb7 := Aside0.mk (blk_fr FN'.out Td.out Bb.out (by decide))
      have R17 := Aside0.mk (R9_fr FN'.out Td.out (by decide) Rd1.out)
      have R37 := Aside0.mk (R3_fr FN'.out Td.out (by decide) Rd3.out.1 Rd3.out.2.1 Rd3.out.2.2)
      have F7 := Aside0.mk (Fd.out.trans FN'.out)
      clear Td Bd Bb Rd1 Rd3 Fd FN' hHeld
      go_wp2
      have HW1 := Aside0.mk hw1
      clear hw1 hw2
      go_roundg (keys.length - m)
      case measure => have := HM.out; omega
      case rel =>
       have hln := HLN.out
       have hml := HLK.out
       have hmm := HM.out
       subst hmm
       have e1 : (kk + 1) * N = kk * N + N := Nat.succ_mul _ _
       have e2 : (kk + 1) * (4 * N) = kk * (4 * N) + 4 * N := Nat.succ_mul _ _
       exact ⟨kk + 1, ⟨pgn, prn, dpn, ordn, badn⟩, Agn, cgn, Apn, cpn, Adn, cdn, by omega, by omega, by first | rfl | exact congrArg (Value.int .i64) HW1.out, TN', B7, Bb7, R17, R37, F7, HSTEP, ⟨by show pgn.length ≤ _; rw [e1]; omega, by show prn.length ≤ _; rw [e2]; omega, by show dpn.length ≤ _; rw [e1]; omega⟩⟩
     | true =>
      cases hb2 : Op.bytesLess nx.toList high.toList with
      | true =>
       have HMORE := Aside0.mk (show moreB keys high true kk = true by unfold moreB; rw [HNEXT.out, ← HM.out, decide_eq_true hnx, hb2]; rfl)
       go_upto_region 21 with (fail)
       clear hn1 hn0 hk1
       have HMO := Aside0.mk (show nextB keys high true kk = nx ∧ (true || moreB keys high true kk) = true by unfold nextB; rw [HMORE.out]; exact ⟨(if_pos rfl).trans HNEXT.out, rfl⟩)
       have Td := Aside0.mk TK.out.drew
       have Bd := Aside0.mk (blk_below BNK.out (Below.refl _ _).drew)
       have Bb := Aside0.mk (blk_below BDK.out (Below.refl _ _).drew)
       have Rd1 := Aside0.mk (Kd.R_below R1K.out (Below.refl _ _).drew)
       have Rd3 := Aside0.mk (And.intro (Kd.R_below R3K.out.1 (Below.refl _ _).drew) R3K.out.2)
       have Fd := Aside0.mk (HFK.out.below (Below.refl _ _).drew)
       clear TK BNK BDK R1K R3K HFK
       refine start_ (n := 13) (S := fun w' => w'.cell? ⟨gD, 0, none⟩ = some (.slice AP pages.length cP) ∧ w'.cell? ⟨gD, 1, none⟩ = some (.slice AL late.length cL) ∧ w'.cell? ⟨gN, 3, none⟩ = some (.slice (some ad3) kids.length c3) ∧ w'.cell? (ad3.add kk) = some (.int .i64 kid)) (ds := [12]) #[false, false, false, false, false, false, false, false, false, false, false, false, false] (by kernel_rfl) rfl rfl ⟨(blk_cell Bb.out 0).trans rfl, (blk_cell Bb.out 1).trans rfl, (blk_cell Bd.out 3).trans rfl, (seen_int Rd3.out.1 hlk).trans (by rw [HKID2.out])⟩ (fun hHeld => ?_); refine with_tabW spec_l07Walk.tab21 spec_l07Walk.bits21 (fun HT_ HW_ => ?_)
       generalize wr.drew = wd at Td Bd Bb Rd1 Rd3 Fd hHeld ⊢
       refine take_ (i := 0) (N := some 138) (v := ?_) (a' := ?_) #[true, false, false, false, false, false, false, false, false, false, false, false, false] rfl rfl (take_ofW HT_.out HW_.out (by kernel_rfl)) (fun _ _ _ h => h) (Or.inl ⟨by rfl, ?_⟩) hHeld ?_ ?_
       rotate_left
       ·rintro w' ⟨s0, s1, s2, s3⟩
        go_simp
        with_reducible rfl
       rotate_left
       ·simp only [Act.put, List.setIfInBounds_toArray, List.set_cons_zero, List.set_cons_succ, i64_w, i32_w]
        rfl
       refine pure_ (i := 1) (N := some 139) (v := ?_) (a' := ?_) #[true, true, false, false, false, false, false, false, false, false, false, false, false] rfl rfl (any_of HT_.out (by kernel_rfl)) (fun _ _ _ h => h) (Or.inl ⟨by rfl, ?_⟩) ?_ ?_
       rotate_left
       ·intro w'
        go_simp
        with_reducible rfl
       rotate_left
       ·simp only [Act.put, List.setIfInBounds_toArray, List.set_cons_zero, List.set_cons_succ, i64_w, i32_w]
        rfl
       refine take_ (i := 2) (N := some 140) (v := ?_) (a' := ?_) #[true, true, true, false, false, false, false, false, false, false, false, false, false] rfl rfl (take_ofW HT_.out HW_.out (by kernel_rfl)) (fun _ _ _ h => h) (Or.inl ⟨by rfl, ?_⟩) hHeld ?_ ?_
       rotate_left
       ·rintro w' ⟨s0, s1, s2, s3⟩
        go_simp
        with_reducible rfl
       rotate_left
       ·simp only [Act.put, List.setIfInBounds_toArray, List.set_cons_zero, List.set_cons_succ, i64_w, i32_w]
        rfl
       refine pure_ (i := 3) (N := some 141) (v := ?_) (a' := ?_) #[true, true, true, true, false, false, false, false, false, false, false, false, false] rfl rfl (any_of HT_.out (by kernel_rfl)) (fun _ _ _ h => h) (Or.inl ⟨by rfl, ?_⟩) ?_ ?_
       rotate_left
       ·intro w'
        go_simp
        with_reducible rfl
       rotate_left
       ·simp only [Act.put, List.setIfInBounds_toArray, List.set_cons_zero, List.set_cons_succ, i64_w, i32_w]
        rfl
       refine pure_ (i := 4) (N := some 142) (v := ?_) (a' := ?_) #[true, true, true, true, true, false, false, false, false, false, false, false, false] rfl rfl (any_of HT_.out (by kernel_rfl)) (fun _ _ _ h => h) (Or.inl ⟨by rfl, ?_⟩) ?_ ?_
       rotate_left
       ·intro w'
        go_simp
        with_reducible rfl
       rotate_left
       ·simp only [Act.put, List.setIfInBounds_toArray, List.set_cons_zero, List.set_cons_succ, i64_w, i32_w]
        rfl
       refine take_ (i := 5) (N := some 143) (v := ?_) (a' := ?_) #[true, true, true, true, true, true, false, false, false, false, false, false, false] rfl rfl (take_ofW HT_.out HW_.out (by kernel_rfl)) (fun _ _ _ h => h) (Or.inl ⟨by rfl, ?_⟩) hHeld ?_ ?_
       rotate_left
       ·rintro w' ⟨s0, s1, s2, s3⟩
        go_simp
        with_reducible rfl
       rotate_left
       ·simp only [Act.put, List.setIfInBounds_toArray, List.set_cons_zero, List.set_cons_succ, i64_w, i32_w]
        rfl
       refine pure_ (i := 6) (N := some 144) (v := ?_) (a' := ?_) #[true, true, true, true, true, true, true, false, false, false, false, false, false] rfl rfl (any_of HT_.out (by kernel_rfl)) (fun _ _ _ h => h) (Or.inl ⟨by rfl, ?_⟩) ?_ ?_
       rotate_left
       ·intro w'
        go_simp
        with_reducible rfl
       rotate_left
       ·simp only [Act.put, List.setIfInBounds_toArray, List.set_cons_zero, List.set_cons_succ, i64_w, i32_w]
        rfl
       refine pure_ (i := 7) (N := some 145) (v := ?_) (a' := ?_) #[true, true, true, true, true, true, true, true, false, false, false, false, false] rfl rfl (any_of HT_.out (by kernel_rfl)) (fun _ _ _ h => h) (Or.inl ⟨by rfl, ?_⟩) ?_ ?_
       rotate_left
       ·intro w'
        go_simp
        with_reducible rfl
       rotate_left
       ·simp only [Act.put, List.setIfInBounds_toArray, List.set_cons_zero, List.set_cons_succ, i64_w, i32_w]
        rfl
       refine pure_ (i := 8) (N := some 146) (v := ?_) (a' := ?_) #[true, true, true, true, true, true, true, true, true, false, false, false, false] rfl rfl (any_of HT_.out (by kernel_rfl)) (fun _ _ _ h => h) (Or.inl ⟨by rfl, ?_⟩) ?_ ?_
       rotate_left
       ·intro w'
        go_simp
        with_reducible rfl
       rotate_left
       ·simp only [Act.put, List.setIfInBounds_toArray, List.set_cons_zero, List.set_cons_succ, i64_w, i32_w]
        rfl
       refine pure_ (i := 9) (N := some 147) (v := ?_) (a' := ?_) #[true, true, true, true, true, true, true, true, true, true, false, false, false] rfl rfl (any_of HT_.out (by kernel_rfl)) (fun _ _ _ h => h) (Or.inl ⟨by rfl, ?_⟩) ?_ ?_
       rotate_left
       ·intro w'
        go_simp
        with_reducible rfl
       rotate_left
       ·simp only [Act.put, List.setIfInBounds_toArray, List.set_cons_zero, List.set_cons_succ, i64_w, i32_w]
        rfl
       refine pure_ (i := 10) (N := some 148) (v := ?_) (a' := ?_) #[true, true, true, true, true, true, true, true, true, true, true, false, false] rfl rfl (any_of HT_.out (by kernel_rfl)) (fun _ _ _ h => h) (Or.inl ⟨by rfl, ?_⟩) ?_ ?_
       rotate_left
       ·intro w'
        go_simp
        with_reducible rfl
       rotate_left
       ·simp only [Act.put, List.setIfInBounds_toArray, List.set_cons_zero, List.set_cons_succ, i64_w, i32_w]
        rfl
       refine pure_ (i := 11) (N := some 149) (v := ?_) (a' := ?_) #[true, true, true, true, true, true, true, true, true, true, true, true, false] rfl rfl (any_of HT_.out (by kernel_rfl)) (fun _ _ _ h => h) (Or.inl ⟨by rfl, ?_⟩) ?_ ?_
       rotate_left
       ·intro w'
        go_simp
        with_reducible rfl
       rotate_left
       ·simp only [Act.put, List.setIfInBounds_toArray, List.set_cons_zero, List.set_cons_succ, i64_w, i32_w]
        rfl
       refine last_ (i := 12) (N := some 150) #[true, true, true, true, true, true, true, true, true, true, true, true, true] rfl rfl (one_of HT_.out (by kernel_rfl)) (by decide) (fun K hK => ?_)
       refine goes_ Try.func140 (by kernel_rfl) rfl #[.agg #[.slice AP pages.length cP, .slice AL late.length cL], .int .i64 kid, .int .i64 (wrap64 (deep + 1)), .string low, .string nx, .bool true, .pointer (some ⟨g, 0, none⟩)] (by rfl) rfl rfl (by (try simp only [List.map_toArray, List.map_cons, List.map_nil]); first | done | rfl) ?_
       with_reducible refine (walk_arg (HREC.out ⟨pgi, pri, dpi, ordi, badi⟩ kid low nx true _ Agk cgk Apk cpk Adk cdk HQ.out.1 HQ.out.2.1 HQ.out.2.2 Td.out) HWD.out).mono ?_
       rintro e w6 ⟨rfl, Agn, cgn, Apn, cpn, Adn, cdn, TN, FN⟩
       refine ⟨_, rfl, ?_⟩
       have TN' := Aside0.mk TN
       have FN' := Aside0.mk FN
       clear TN FN
       refine hK.out _ _ ?_
       clear hK K
       refine norm_ (a' := ?_) ?_ ?_
       rotate_left
       ·show Act.put _ (some 150) _ = _
        simp only [Act.put, List.setIfInBounds_toArray, List.set_cons_zero, List.set_cons_succ, i64_w, i32_w]
        rfl
       refine done_ (done_of HT_.out (by kernel_rfl)) ?_
       have HLN := Aside0.mk (HLEN.out ⟨pgi, pri, dpi, ordi, badi⟩ kid low nx true)
       rw [HLE.out, HMO.out.1, HMO.out.2] at HSTEP
       obtain ⟨sn, hsn⟩ : ∃ z, sw rn f ⟨pgi, pri, dpi, ordi, badi⟩ kid (deep + 1) low nx true = z := ⟨_, rfl⟩
       rw [hsn] at TN' FN' HLN HSTEP
       clear hsn
       obtain ⟨pgn, prn, dpn, ordn, badn⟩ := sn
       simp only at TN' FN' HLN
       have B7 := Aside0.mk (blk_fr FN'.out Td.out Bd.out (by decide))
       have Bb7 := Aside0.mk (blk_fr FN'.out Td.out Bb.out (by decide))
       have R17 := Aside0.mk (R9_fr FN'.out Td.out (by decide) Rd1.out)
       have R37 := Aside0.mk (R3_fr FN'.out Td.out (by decide) Rd3.out.1 Rd3.out.2.1 Rd3.out.2.2)
       have F7 := Aside0.mk (Fd.out.trans FN'.out)
       clear Td Bd Bb Rd1 Rd3 Fd FN' hHeld
       go_wp2
       have HW1 := Aside0.mk hw1
       clear hw1 hw2
       go_roundg (keys.length - m)
       case measure => have := HM.out; omega
       case rel =>
        have hln := HLN.out
        have hml := HLK.out
        have hmm := HM.out
        subst hmm
        have e1 : (kk + 1) * N = kk * N + N := Nat.succ_mul _ _
        have e2 : (kk + 1) * (4 * N) = kk * (4 * N) + 4 * N := Nat.succ_mul _ _
        exact ⟨kk + 1, ⟨pgn, prn, dpn, ordn, badn⟩, Agn, cgn, Apn, cpn, Adn, cdn, by omega, by omega, by first | rfl | exact congrArg (Value.int .i64) HW1.out, TN', B7, Bb7, R17, R37, F7, HSTEP, ⟨by show pgn.length ≤ _; rw [e1]; omega, by show prn.length ≤ _; rw [e2]; omega, by show dpn.length ≤ _; rw [e1]; omega⟩⟩
      | false =>
       have HMORE := Aside0.mk (show moreB keys high true kk = false by unfold moreB; rw [HNEXT.out, ← HM.out, decide_eq_true hnx, hb2]; rfl)
       go_upto_region 21 with (fail)
       clear hn1 hn0 hk1
       have HMO := Aside0.mk (show nextB keys high true kk = high ∧ (true || moreB keys high true kk) = true by unfold nextB; rw [HMORE.out]; exact ⟨if_neg (by simp), rfl⟩)
       have Td := Aside0.mk TK.out.drew
       have Bd := Aside0.mk (blk_below BNK.out (Below.refl _ _).drew)
       have Bb := Aside0.mk (blk_below BDK.out (Below.refl _ _).drew)
       have Rd1 := Aside0.mk (Kd.R_below R1K.out (Below.refl _ _).drew)
       have Rd3 := Aside0.mk (And.intro (Kd.R_below R3K.out.1 (Below.refl _ _).drew) R3K.out.2)
       have Fd := Aside0.mk (HFK.out.below (Below.refl _ _).drew)
       clear TK BNK BDK R1K R3K HFK
       refine start_ (n := 13) (S := fun w' => w'.cell? ⟨gD, 0, none⟩ = some (.slice AP pages.length cP) ∧ w'.cell? ⟨gD, 1, none⟩ = some (.slice AL late.length cL) ∧ w'.cell? ⟨gN, 3, none⟩ = some (.slice (some ad3) kids.length c3) ∧ w'.cell? (ad3.add kk) = some (.int .i64 kid)) (ds := [12]) #[false, false, false, false, false, false, false, false, false, false, false, false, false] (by kernel_rfl) rfl rfl ⟨(blk_cell Bb.out 0).trans rfl, (blk_cell Bb.out 1).trans rfl, (blk_cell Bd.out 3).trans rfl, (seen_int Rd3.out.1 hlk).trans (by rw [HKID2.out])⟩ (fun hHeld => ?_); refine with_tabW spec_l07Walk.tab21 spec_l07Walk.bits21 (fun HT_ HW_ => ?_)
       generalize wr.drew = wd at Td Bd Bb Rd1 Rd3 Fd hHeld ⊢
       refine take_ (i := 0) (N := some 138) (v := ?_) (a' := ?_) #[true, false, false, false, false, false, false, false, false, false, false, false, false] rfl rfl (take_ofW HT_.out HW_.out (by kernel_rfl)) (fun _ _ _ h => h) (Or.inl ⟨by rfl, ?_⟩) hHeld ?_ ?_
       rotate_left
       ·rintro w' ⟨s0, s1, s2, s3⟩
        go_simp
        with_reducible rfl
       rotate_left
       ·simp only [Act.put, List.setIfInBounds_toArray, List.set_cons_zero, List.set_cons_succ, i64_w, i32_w]
        rfl
       refine pure_ (i := 1) (N := some 139) (v := ?_) (a' := ?_) #[true, true, false, false, false, false, false, false, false, false, false, false, false] rfl rfl (any_of HT_.out (by kernel_rfl)) (fun _ _ _ h => h) (Or.inl ⟨by rfl, ?_⟩) ?_ ?_
       rotate_left
       ·intro w'
        go_simp
        with_reducible rfl
       rotate_left
       ·simp only [Act.put, List.setIfInBounds_toArray, List.set_cons_zero, List.set_cons_succ, i64_w, i32_w]
        rfl
       refine take_ (i := 2) (N := some 140) (v := ?_) (a' := ?_) #[true, true, true, false, false, false, false, false, false, false, false, false, false] rfl rfl (take_ofW HT_.out HW_.out (by kernel_rfl)) (fun _ _ _ h => h) (Or.inl ⟨by rfl, ?_⟩) hHeld ?_ ?_
       rotate_left
       ·rintro w' ⟨s0, s1, s2, s3⟩
        go_simp
        with_reducible rfl
       rotate_left
       ·simp only [Act.put, List.setIfInBounds_toArray, List.set_cons_zero, List.set_cons_succ, i64_w, i32_w]
        rfl
       refine pure_ (i := 3) (N := some 141) (v := ?_) (a' := ?_) #[true, true, true, true, false, false, false, false, false, false, false, false, false] rfl rfl (any_of HT_.out (by kernel_rfl)) (fun _ _ _ h => h) (Or.inl ⟨by rfl, ?_⟩) ?_ ?_
       rotate_left
       ·intro w'
        go_simp
        with_reducible rfl
       rotate_left
       ·simp only [Act.put, List.setIfInBounds_toArray, List.set_cons_zero, List.set_cons_succ, i64_w, i32_w]
        rfl
       refine pure_ (i := 4) (N := some 142) (v := ?_) (a' := ?_) #[true, true, true, true, true, false, false, false, false, false, false, false, false] rfl rfl (any_of HT_.out (by kernel_rfl)) (fun _ _ _ h => h) (Or.inl ⟨by rfl, ?_⟩) ?_ ?_
       rotate_left
       ·intro w'
        go_simp
        with_reducible rfl
       rotate_left
       ·simp only [Act.put, List.setIfInBounds_toArray, List.set_cons_zero, List.set_cons_succ, i64_w, i32_w]
        rfl
       refine take_ (i := 5) (N := some 143) (v := ?_) (a' := ?_) #[true, true, true, true, true, true, false, false, false, false, false, false, false] rfl rfl (take_ofW HT_.out HW_.out (by kernel_rfl)) (fun _ _ _ h => h) (Or.inl ⟨by rfl, ?_⟩) hHeld ?_ ?_
       rotate_left
       ·rintro w' ⟨s0, s1, s2, s3⟩
        go_simp
        with_reducible rfl
       rotate_left
       ·simp only [Act.put, List.setIfInBounds_toArray, List.set_cons_zero, List.set_cons_succ, i64_w, i32_w]
        rfl
       refine pure_ (i := 6) (N := some 144) (v := ?_) (a' := ?_) #[true, true, true, true, true, true, true, false, false, false, false, false, false] rfl rfl (any_of HT_.out (by kernel_rfl)) (fun _ _ _ h => h) (Or.inl ⟨by rfl, ?_⟩) ?_ ?_
       rotate_left
       ·intro w'
        go_simp
        with_reducible rfl
       rotate_left
       ·simp only [Act.put, List.setIfInBounds_toArray, List.set_cons_zero, List.set_cons_succ, i64_w, i32_w]
        rfl
       refine pure_ (i := 7) (N := some 145) (v := ?_) (a' := ?_) #[true, true, true, true, true, true, true, true, false, false, false, false, false] rfl rfl (any_of HT_.out (by kernel_rfl)) (fun _ _ _ h => h) (Or.inl ⟨by rfl, ?_⟩) ?_ ?_
       rotate_left
       ·intro w'
        go_simp
        with_reducible rfl
       rotate_left
       ·simp only [Act.put, List.setIfInBounds_toArray, List.set_cons_zero, List.set_cons_succ, i64_w, i32_w]
        rfl
       refine pure_ (i := 8) (N := some 146) (v := ?_) (a' := ?_) #[true, true, true, true, true, true, true, true, true, false, false, false, false] rfl rfl (any_of HT_.out (by kernel_rfl)) (fun _ _ _ h => h) (Or.inl ⟨by rfl, ?_⟩) ?_ ?_
       rotate_left
       ·intro w'
        go_simp
        with_reducible rfl
       rotate_left
       ·simp only [Act.put, List.setIfInBounds_toArray, List.set_cons_zero, List.set_cons_succ, i64_w, i32_w]
        rfl
       refine pure_ (i := 9) (N := some 147) (v := ?_) (a' := ?_) #[true, true, true, true, true, true, true, true, true, true, false, false, false] rfl rfl (any_of HT_.out (by kernel_rfl)) (fun _ _ _ h => h) (Or.inl ⟨by rfl, ?_⟩) ?_ ?_
       rotate_left
       ·intro w'
        go_simp
        with_reducible rfl
       rotate_left
       ·simp only [Act.put, List.setIfInBounds_toArray, List.set_cons_zero, List.set_cons_succ, i64_w, i32_w]
        rfl
       refine pure_ (i := 10) (N := some 148) (v := ?_) (a' := ?_) #[true, true, true, true, true, true, true, true, true, true, true, false, false] rfl rfl (any_of HT_.out (by kernel_rfl)) (fun _ _ _ h => h) (Or.inl ⟨by rfl, ?_⟩) ?_ ?_
       rotate_left
       ·intro w'
        go_simp
        with_reducible rfl
       rotate_left
       ·simp only [Act.put, List.setIfInBounds_toArray, List.set_cons_zero, List.set_cons_succ, i64_w, i32_w]
        rfl
       refine pure_ (i := 11) (N := some 149) (v := ?_) (a' := ?_) #[true, true, true, true, true, true, true, true, true, true, true, true, false] rfl rfl (any_of HT_.out (by kernel_rfl)) (fun _ _ _ h => h) (Or.inl ⟨by rfl, ?_⟩) ?_ ?_
       rotate_left
       ·intro w'
        go_simp
        with_reducible rfl
       rotate_left
       ·simp only [Act.put, List.setIfInBounds_toArray, List.set_cons_zero, List.set_cons_succ, i64_w, i32_w]
        rfl
       refine last_ (i := 12) (N := some 150) #[true, true, true, true, true, true, true, true, true, true, true, true, true] rfl rfl (one_of HT_.out (by kernel_rfl)) (by decide) (fun K hK => ?_)
       refine goes_ Try.func140 (by kernel_rfl) rfl #[.agg #[.slice AP pages.length cP, .slice AL late.length cL], .int .i64 kid, .int .i64 (wrap64 (deep + 1)), .string low, .string high, .bool true, .pointer (some ⟨g, 0, none⟩)] (by rfl) rfl rfl (by (try simp only [List.map_toArray, List.map_cons, List.map_nil]); first | done | rfl) ?_
       with_reducible refine (walk_arg (HREC.out ⟨pgi, pri, dpi, ordi, badi⟩ kid low high true _ Agk cgk Apk cpk Adk cdk HQ.out.1 HQ.out.2.1 HQ.out.2.2 Td.out) HWD.out).mono ?_
       rintro e w6 ⟨rfl, Agn, cgn, Apn, cpn, Adn, cdn, TN, FN⟩
       refine ⟨_, rfl, ?_⟩
       have TN' := Aside0.mk TN
       have FN' := Aside0.mk FN
       clear TN FN
       refine hK.out _ _ ?_
       clear hK K
       refine norm_ (a' := ?_) ?_ ?_
       rotate_left
       ·show Act.put _ (some 150) _ = _
        simp only [Act.put, List.setIfInBounds_toArray, List.set_cons_zero, List.set_cons_succ, i64_w, i32_w]
        rfl
       refine done_ (done_of HT_.out (by kernel_rfl)) ?_
       have HLN := Aside0.mk (HLEN.out ⟨pgi, pri, dpi, ordi, badi⟩ kid low high true)
       rw [HLE.out, HMO.out.1, HMO.out.2] at HSTEP
       obtain ⟨sn, hsn⟩ : ∃ z, sw rn f ⟨pgi, pri, dpi, ordi, badi⟩ kid (deep + 1) low high true = z := ⟨_, rfl⟩
       rw [hsn] at TN' FN' HLN HSTEP
       clear hsn
       obtain ⟨pgn, prn, dpn, ordn, badn⟩ := sn
       simp only at TN' FN' HLN
       have B7 := Aside0.mk (blk_fr FN'.out Td.out Bd.out (by decide))
       have Bb7 := Aside0.mk (blk_fr FN'.out Td.out Bb.out (by decide))
       have R17 := Aside0.mk (R9_fr FN'.out Td.out (by decide) Rd1.out)
       have R37 := Aside0.mk (R3_fr FN'.out Td.out (by decide) Rd3.out.1 Rd3.out.2.1 Rd3.out.2.2)
       have F7 := Aside0.mk (Fd.out.trans FN'.out)
       clear Td Bd Bb Rd1 Rd3 Fd FN' hHeld
       go_wp2
       have HW1 := Aside0.mk hw1
       clear hw1 hw2
       go_roundg (keys.length - m)
       case measure => have := HM.out; omega
       case rel =>
        have hln := HLN.out
        have hml := HLK.out
        have hmm := HM.out
        subst hmm
        have e1 : (kk + 1) * N = kk * N + N := Nat.succ_mul _ _
        have e2 : (kk + 1) * (4 * N) = kk * (4 * N) + 4 * N := Nat.succ_mul _ _
        exact ⟨kk + 1, ⟨pgn, prn, dpn, ordn, badn⟩, Agn, cgn, Apn, cpn, Adn, cdn, by omega, by omega, by first | rfl | exact congrArg (Value.int .i64) HW1.out, TN', B7, Bb7, R17, R37, F7, HSTEP, ⟨by show pgn.length ≤ _; rw [e1]; omega, by show prn.length ≤ _; rw [e2]; omega, by show dpn.length ≤ _; rw [e1]; omega⟩⟩
    ·have hnxz : ¬ (m : Int) < (keys.length : Int) := by omega
     have HMORE := Aside0.mk (show moreB keys high has kk = false by unfold moreB; rw [← HM.out, decide_eq_false hnx]; rfl)
     go_upto_region 21 with (fail)
     clear hn1 hn0 hk1
     have HMO := Aside0.mk (show nextB keys high has kk = high ∧ (has || moreB keys high has kk) = has by unfold nextB; rw [HMORE.out]; exact ⟨if_neg (by simp), by simp⟩)
     have Td := Aside0.mk TK.out.drew
     have Bd := Aside0.mk (blk_below BNK.out (Below.refl _ _).drew)
     have Bb := Aside0.mk (blk_below BDK.out (Below.refl _ _).drew)
     have Rd1 := Aside0.mk (Kd.R_below R1K.out (Below.refl _ _).drew)
     have Rd3 := Aside0.mk (And.intro (Kd.R_below R3K.out.1 (Below.refl _ _).drew) R3K.out.2)
     have Fd := Aside0.mk (HFK.out.below (Below.refl _ _).drew)
     clear TK BNK BDK R1K R3K HFK
     refine start_ (n := 13) (S := fun w' => w'.cell? ⟨gD, 0, none⟩ = some (.slice AP pages.length cP) ∧ w'.cell? ⟨gD, 1, none⟩ = some (.slice AL late.length cL) ∧ w'.cell? ⟨gN, 3, none⟩ = some (.slice (some ad3) kids.length c3) ∧ w'.cell? (ad3.add kk) = some (.int .i64 kid)) (ds := [12]) #[false, false, false, false, false, false, false, false, false, false, false, false, false] (by kernel_rfl) rfl rfl ⟨(blk_cell Bb.out 0).trans rfl, (blk_cell Bb.out 1).trans rfl, (blk_cell Bd.out 3).trans rfl, (seen_int Rd3.out.1 hlk).trans (by rw [HKID2.out])⟩ (fun hHeld => ?_); refine with_tabW spec_l07Walk.tab21 spec_l07Walk.bits21 (fun HT_ HW_ => ?_)
     generalize wr.drew = wd at Td Bd Bb Rd1 Rd3 Fd hHeld ⊢
     refine take_ (i := 0) (N := some 138) (v := ?_) (a' := ?_) #[true, false, false, false, false, false, false, false, false, false, false, false, false] rfl rfl (take_ofW HT_.out HW_.out (by kernel_rfl)) (fun _ _ _ h => h) (Or.inl ⟨by rfl, ?_⟩) hHeld ?_ ?_
     rotate_left
     ·rintro w' ⟨s0, s1, s2, s3⟩
      go_simp
      with_reducible rfl
     rotate_left
     ·simp only [Act.put, List.setIfInBounds_toArray, List.set_cons_zero, List.set_cons_succ, i64_w, i32_w]
      rfl
     refine pure_ (i := 1) (N := some 139) (v := ?_) (a' := ?_) #[true, true, false, false, false, false, false, false, false, false, false, false, false] rfl rfl (any_of HT_.out (by kernel_rfl)) (fun _ _ _ h => h) (Or.inl ⟨by rfl, ?_⟩) ?_ ?_
     rotate_left
     ·intro w'
      go_simp
      with_reducible rfl
     rotate_left
     ·simp only [Act.put, List.setIfInBounds_toArray, List.set_cons_zero, List.set_cons_succ, i64_w, i32_w]
      rfl
     refine take_ (i := 2) (N := some 140) (v := ?_) (a' := ?_) #[true, true, true, false, false, false, false, false, false, false, false, false, false] rfl rfl (take_ofW HT_.out HW_.out (by kernel_rfl)) (fun _ _ _ h => h) (Or.inl ⟨by rfl, ?_⟩) hHeld ?_ ?_
     rotate_left
     ·rintro w' ⟨s0, s1, s2, s3⟩
      go_simp
      with_reducible rfl
     rotate_left
     ·simp only [Act.put, List.setIfInBounds_toArray, List.set_cons_zero, List.set_cons_succ, i64_w, i32_w]
      rfl
     refine pure_ (i := 3) (N := some 141) (v := ?_) (a' := ?_) #[true, true, true, true, false, false, false, false, false, false, false, false, false] rfl rfl (any_of HT_.out (by kernel_rfl)) (fun _ _ _ h => h) (Or.inl ⟨by rfl, ?_⟩) ?_ ?_
     rotate_left
     ·intro w'
      go_simp
      with_reducible rfl
     rotate_left
     ·simp only [Act.put, List.setIfInBounds_toArray, List.set_cons_zero, List.set_cons_succ, i64_w, i32_w]
      rfl
     refine pure_ (i := 4) (N := some 142) (v := ?_) (a' := ?_) #[true, true, true, true, true, false, false, false, false, false, false, false, false] rfl rfl (any_of HT_.out (by kernel_rfl)) (fun _ _ _ h => h) (Or.inl ⟨by rfl, ?_⟩) ?_ ?_
     rotate_left
     ·intro w'
      go_simp
      with_reducible rfl
     rotate_left
     ·simp only [Act.put, List.setIfInBounds_toArray, List.set_cons_zero, List.set_cons_succ, i64_w, i32_w]
      rfl
     refine take_ (i := 5) (N := some 143) (v := ?_) (a' := ?_) #[true, true, true, true, true, true, false, false, false, false, false, false, false] rfl rfl (take_ofW HT_.out HW_.out (by kernel_rfl)) (fun _ _ _ h => h) (Or.inl ⟨by rfl, ?_⟩) hHeld ?_ ?_
     rotate_left
     ·rintro w' ⟨s0, s1, s2, s3⟩
      go_simp
      with_reducible rfl
     rotate_left
     ·simp only [Act.put, List.setIfInBounds_toArray, List.set_cons_zero, List.set_cons_succ, i64_w, i32_w]
      rfl
     refine pure_ (i := 6) (N := some 144) (v := ?_) (a' := ?_) #[true, true, true, true, true, true, true, false, false, false, false, false, false] rfl rfl (any_of HT_.out (by kernel_rfl)) (fun _ _ _ h => h) (Or.inl ⟨by rfl, ?_⟩) ?_ ?_
     rotate_left
     ·intro w'
      go_simp
      with_reducible rfl
     rotate_left
     ·simp only [Act.put, List.setIfInBounds_toArray, List.set_cons_zero, List.set_cons_succ, i64_w, i32_w]
      rfl
     refine pure_ (i := 7) (N := some 145) (v := ?_) (a' := ?_) #[true, true, true, true, true, true, true, true, false, false, false, false, false] rfl rfl (any_of HT_.out (by kernel_rfl)) (fun _ _ _ h => h) (Or.inl ⟨by rfl, ?_⟩) ?_ ?_
     rotate_left
     ·intro w'
      go_simp
      with_reducible rfl
     rotate_left
     ·simp only [Act.put, List.setIfInBounds_toArray, List.set_cons_zero, List.set_cons_succ, i64_w, i32_w]
      rfl
     refine pure_ (i := 8) (N := some 146) (v := ?_) (a' := ?_) #[true, true, true, true, true, true, true, true, true, false, false, false, false] rfl rfl (any_of HT_.out (by kernel_rfl)) (fun _ _ _ h => h) (Or.inl ⟨by rfl, ?_⟩) ?_ ?_
     rotate_left
     ·intro w'
      go_simp
      with_reducible rfl
     rotate_left
     ·simp only [Act.put, List.setIfInBounds_toArray, List.set_cons_zero, List.set_cons_succ, i64_w, i32_w]
      rfl
     refine pure_ (i := 9) (N := some 147) (v := ?_) (a' := ?_) #[true, true, true, true, true, true, true, true, true, true, false, false, false] rfl rfl (any_of HT_.out (by kernel_rfl)) (fun _ _ _ h => h) (Or.inl ⟨by rfl, ?_⟩) ?_ ?_
     rotate_left
     ·intro w'
      go_simp
      with_reducible rfl
     rotate_left
     ·simp only [Act.put, List.setIfInBounds_toArray, List.set_cons_zero, List.set_cons_succ, i64_w, i32_w]
      rfl
     refine pure_ (i := 10) (N := some 148) (v := ?_) (a' := ?_) #[true, true, true, true, true, true, true, true, true, true, true, false, false] rfl rfl (any_of HT_.out (by kernel_rfl)) (fun _ _ _ h => h) (Or.inl ⟨by rfl, ?_⟩) ?_ ?_
     rotate_left
     ·intro w'
      go_simp
      with_reducible rfl
     rotate_left
     ·simp only [Act.put, List.setIfInBounds_toArray, List.set_cons_zero, List.set_cons_succ, i64_w, i32_w]
      rfl
     refine pure_ (i := 11) (N := some 149) (v := ?_) (a' := ?_) #[true, true, true, true, true, true, true, true, true, true, true, true, false] rfl rfl (any_of HT_.out (by kernel_rfl)) (fun _ _ _ h => h) (Or.inl ⟨by rfl, ?_⟩) ?_ ?_
     rotate_left
     ·intro w'
      go_simp
      with_reducible rfl
     rotate_left
     ·simp only [Act.put, List.setIfInBounds_toArray, List.set_cons_zero, List.set_cons_succ, i64_w, i32_w]
      rfl
     refine last_ (i := 12) (N := some 150) #[true, true, true, true, true, true, true, true, true, true, true, true, true] rfl rfl (one_of HT_.out (by kernel_rfl)) (by decide) (fun K hK => ?_)
     refine goes_ Try.func140 (by kernel_rfl) rfl #[.agg #[.slice AP pages.length cP, .slice AL late.length cL], .int .i64 kid, .int .i64 (wrap64 (deep + 1)), .string low, .string high, .bool has, .pointer (some ⟨g, 0, none⟩)] (by rfl) rfl rfl (by (try simp only [List.map_toArray, List.map_cons, List.map_nil]); first | done | rfl) ?_
     with_reducible refine (walk_arg (HREC.out ⟨pgi, pri, dpi, ordi, badi⟩ kid low high has _ Agk cgk Apk cpk Adk cdk HQ.out.1 HQ.out.2.1 HQ.out.2.2 Td.out) HWD.out).mono ?_
     rintro e w6 ⟨rfl, Agn, cgn, Apn, cpn, Adn, cdn, TN, FN⟩
     refine ⟨_, rfl, ?_⟩
     have TN' := Aside0.mk TN
     have FN' := Aside0.mk FN
     clear TN FN
     refine hK.out _ _ ?_
     clear hK K
     refine norm_ (a' := ?_) ?_ ?_
     rotate_left
     ·show Act.put _ (some 150) _ = _
      simp only [Act.put, List.setIfInBounds_toArray, List.set_cons_zero, List.set_cons_succ, i64_w, i32_w]
      rfl
     refine done_ (done_of HT_.out (by kernel_rfl)) ?_
     have HLN := Aside0.mk (HLEN.out ⟨pgi, pri, dpi, ordi, badi⟩ kid low high has)
     rw [HLE.out, HMO.out.1, HMO.out.2] at HSTEP
     obtain ⟨sn, hsn⟩ : ∃ z, sw rn f ⟨pgi, pri, dpi, ordi, badi⟩ kid (deep + 1) low high has = z := ⟨_, rfl⟩
     rw [hsn] at TN' FN' HLN HSTEP
     clear hsn
     obtain ⟨pgn, prn, dpn, ordn, badn⟩ := sn
     simp only at TN' FN' HLN
     have B7 := Aside0.mk (blk_fr FN'.out Td.out Bd.out (by decide))
     have Bb7 := Aside0.mk (blk_fr FN'.out Td.out Bb.out (by decide))
     have R17 := Aside0.mk (R9_fr FN'.out Td.out (by decide) Rd1.out)
     have R37 := Aside0.mk (R3_fr FN'.out Td.out (by decide) Rd3.out.1 Rd3.out.2.1 Rd3.out.2.2)
     have F7 := Aside0.mk (Fd.out.trans FN'.out)
     clear Td Bd Bb Rd1 Rd3 Fd FN' hHeld
     go_wp2
     have HW1 := Aside0.mk hw1
     clear hw1 hw2
     go_roundg (keys.length - m)
     case measure => have := HM.out; omega
     case rel =>
      have hln := HLN.out
      have hml := HLK.out
      have hmm := HM.out
      subst hmm
      have e1 : (kk + 1) * N = kk * N + N := Nat.succ_mul _ _
      have e2 : (kk + 1) * (4 * N) = kk * (4 * N) + 4 * N := Nat.succ_mul _ _
      exact ⟨kk + 1, ⟨pgn, prn, dpn, ordn, badn⟩, Agn, cgn, Apn, cpn, Adn, cdn, by omega, by omega, by first | rfl | exact congrArg (Value.int .i64) HW1.out, TN', B7, Bb7, R17, R37, F7, HSTEP, ⟨by show pgn.length ≤ _; rw [e1]; omega, by show prn.length ≤ _; rw [e2]; omega, by show dpn.length ≤ _; rw [e1]; omega⟩⟩
  ·have hltz : ¬ (kk : Int) < (keys.length : Int) := by omega
   have : kk = keys.length := by omega
   subst this
   have HE := Aside0.mk (show sti = RES by rw [← HRK.out, Nat.sub_self, swKids])
   have hn1 : wr.cell? ⟨gN, 1, none⟩ = some (.slice A1 keys.length c1) := (blk_cell BNK.out 1).trans rfl
   have hn0 : wr.cell? ⟨gN, 0, none⟩ = some (.bool false) := (blk_cell BNK.out 0).trans rfl
   go_wp2
   refine bodyPost_ret (results_list (rs := []) (vs := []) rfl (by simp) Vals.nil) rfl ?_
   rw [← HE.out]
   exact ⟨rfl, _, _, _, _, _, _, TK.out, HFK.out⟩
end Go.Proofs.Ytapholbdjccapaa.PFnExactTreeOk
namespace Go.Proofs.Ytapholbdjccapaa.PFnExactTreeOk
open Go.RowKit Go.Proofs.YtapholbdjccapaaW.PrintWords Go.Proofs.YtapholbdjccapaaW.PrintLast Go.Proofs.YtapholbdjccapaaW.PrintMore
set_option linter.unusedVariables false
set_option linter.unusedSimpArgs false
theorem RnS.len {pages : List ByteArray} {late : List S189} {rn : Int → S68 × Bool} (h : RnS pages late rn) : RnLen rn := by
 intro page hok
 obtain ⟨s, _, _, hc⟩ := h page
 rcases hc with hc | hc
 ·obtain ⟨hshape, _⟩ := (nodeOk_iff _ _ _ _).1 hc.2
  exact ⟨hshape.1.2, fun hl => (hshape.2.2 hl).1⟩
 ·rw [hc.1] at hok; cases hok
theorem skids_len {rn : Int → S68 × Bool} {f : Nat} {deep : Int} {keys : List ByteArray} {kids : List Int} {low high : ByteArray} {has : Bool}
  (ih : ∀ st page deep lo hi ha, (sw rn f st page deep lo hi ha).pg.length ≤ st.pg.length + nf f ∧ (sw rn f st page deep lo hi ha).pr.length ≤ st.pr.length + 4 * nf f ∧ (sw rn f st page deep lo hi ha).dp.length ≤ st.dp.length + nf f) :
  ∀ (n i : Nat) (st : TSt), (swKids (fun s k lo hi ha => sw rn f s k deep lo hi ha) keys kids low high has i n st).pg.length ≤ st.pg.length + n * nf f ∧ (swKids (fun s k lo hi ha => sw rn f s k deep lo hi ha) keys kids low high has i n st).pr.length ≤ st.pr.length + n * (4 * nf f) ∧ (swKids (fun s k lo hi ha => sw rn f s k deep lo hi ha) keys kids low high has i n st).dp.length ≤ st.dp.length + n * nf f
 | 0, i, st => by simp [swKids]
 | n + 1, i, st => by
  have h1 := ih st (kids.getD i 0) deep (leastB low (keys.getD i ByteArray.empty)) (nextB keys high has i) (has || moreB keys high has i)
  have e1 : (n + 1) * nf f = n * nf f + nf f := Nat.succ_mul _ _
  have e2 : (n + 1) * (4 * nf f) = n * (4 * nf f) + 4 * nf f := Nat.succ_mul _ _
  rw [e1, e2]
  simp only [swKids]
  have h2 := skids_len (keys := keys) (kids := kids) (low := low) (high := high) (has := has) (deep := deep) ih n (i + 1) (sw rn f st (kids.getD i 0) deep (leastB low (keys.getD i ByteArray.empty)) (nextB keys high has i) (has || moreB keys high has i))
  omega
theorem sw_len {rn : Int → S68 × Bool} (hl : RnLen rn) : ∀ (f : Nat) (st : TSt) (page deep : Int) (low high : ByteArray) (has : Bool), (sw rn f st page deep low high has).pg.length ≤ st.pg.length + nf f ∧ (sw rn f st page deep low high has).pr.length ≤ st.pr.length + 4 * nf f ∧ (sw rn f st page deep low high has).dp.length ≤ st.dp.length + nf f
 | 0, st, page, deep, low, high, has => by simp [sw, nf]
 | f + 1, st, page, deep, low, high, has => by
  simp only [sw, nf]
  split
  ·simp only; omega
  ·rename_i hb
   have hok : (rn page).2 = true := by
    cases h : (rn page).2
    ·exact absurd (.inl h) hb
    ·rfl
   obtain ⟨h1, h2⟩ := hl page hok
   split
   ·simp only [List.length_append, pairsTo_len, List.length_cons, List.length_nil]; omega
   ·rename_i hleaf
    have h3 := skids_len (keys := (rn page).1.f1) (kids := (rn page).1.f3) (low := low) (high := high) (has := has) (deep := deep + 1) (sw_len hl f) (rn page).1.f1.length 0 ⟨st.pg ++ [page], st.pr, st.dp, st.order, st.bad⟩
    have e1 : (rn page).1.f1.length * nf f ≤ 4 * nf f := Nat.mul_le_mul_right _ (by omega)
    have e2 : (rn page).1.f1.length * (4 * nf f) ≤ 4 * (4 * nf f) := Nat.mul_le_mul_right _ (by omega)
    simp only [List.length_append, List.length_cons, List.length_nil] at h3
    omega
theorem walk_ok (AP : Option Addr) (cP : Nat) (pages : List ByteArray) (AL : Option Addr) (cL : Nat) (late : List S189) (w0 : World) (hP : Kd.C Kd.string w0 AP pages.length pages) (hcP : pages.length ≤ cP) (hL : Kd.C k189 w0 AL late.length late) (hcL : late.length ≤ cL) (rn : Int → S68 × Bool) (hrn : RnS pages late rn) (g : Nat) : ∀ (f : Nat) (st : TSt) (page deep : Int) (low high : ByteArray) (has : Bool) (w : World) (Ag : Option Addr) (cg : Nat) (Ap : Option Addr) (cp : Nat) (Ad : Option Addr) (cd : Nat), deep + (f : Int) = 9 → 0 ≤ deep → st.pg.length + nf f ≤ 1000000 → st.pr.length + 4 * nf f ≤ 1000000 → st.dp.length + nf f ≤ 1000000 →
  TInv cellsS 138 w0 w g (.slice Ag st.pg.length cg) (.slice Ap st.pr.length cp) (.slice Ad st.dp.length cd) st.order st.bad st.pg st.pr st.dp →
  Calls Try.prog 140 #[.agg #[.slice AP pages.length cP, .slice AL late.length cL], .int .i64 page, .int .i64 deep, .string low, .string high, .bool has, .pointer (some ⟨g, 0, none⟩)] w (DownPost cellsS 138 w0 w g (.slice Ag st.pg.length cg) (.slice Ap st.pr.length cp) (.slice Ad st.dp.length cd) (sw rn f st page deep low high has))
 | 0, st, page, deep, low, high, has, w, Ag, cg, Ap, cp, Ad, cd, hf, h1, l1, l2, l3, hT => by
  exact walk_bad AP cP pages AL cL late w0 hP hcP hL hcL rn hrn g st page deep low high has w Ag cg Ap cp Ad cd hT (.inr (.inl (by omega)))
 | f + 1, st, page, deep, low, high, has, w, Ag, cg, Ap, cp, Ad, cd, hf, h1, l1, l2, l3, hT => by
  simp only [nf] at l1 l2 l3
  rw [sw]
  split
  ·rename_i hb
   exact walk_bad AP cP pages AL cL late w0 hP hcP hL hcL rn hrn g st page deep low high has w Ag cg Ap cp Ad cd hT hb
  ·rename_i hb
   have hbad : st.bad = false := by
    cases h : st.bad
    ·rfl
    ·exact absurd (.inr (.inr (.inr h))) hb
   have hok : (rn page).2 = true := by
    cases h : (rn page).2
    ·exact absurd (.inl h) hb
    ·rfl
   have hd : deep < 8 := by
    by_cases h : deep ≥ 8
    ·exact absurd (.inr (.inl h)) hb
    ·omega
   have hcon : st.pg.contains page = false := by
    cases h : st.pg.contains page
    ·rfl
    ·exact absurd (.inr (.inr (.inl h))) hb
   cases hleaf : (rn page).1.f0
   ·rw [if_neg (by simp)]
    exact walk_branch AP cP pages AL cL late w0 hP hcP hL hcL rn hrn g st page deep low high has w Ag cg Ap cp Ad cd hT f (nf f)
     (fun s' kid lo hi ha W Ag' cg' Ap' cp' Ad' cd' k1 k2 k3 k4 => walk_ok AP cP pages AL cL late w0 hP hcP hL hcL rn hrn g f s' kid (deep + 1) lo hi ha W Ag' cg' Ap' cp' Ad' cd' (by omega) (by omega) k1 k2 k3 k4)
     (fun s' kid lo hi ha => sw_len hrn.len f s' kid (deep + 1) lo hi ha) hbad hok h1 hd hcon hleaf (by omega) (by omega) (by omega)
   ·rw [if_pos rfl]
    exact walk_leaf AP cP pages AL cL late w0 hP hcP hL hcL rn hrn g st page deep low high has w Ag cg Ap cp Ad cd hT hbad hok hd hcon hleaf (by omega) (by omega) (by omega)
def ss0 : TSt := ⟨[], [], [], false, false⟩
def look (rn : Int → S68 × Bool) (root : Int) : TSt := if root = 0 then ss0 else sw rn 9 ss0 root 0 ⟨#[]⟩ ⟨#[]⟩ false
set_option maxHeartbeats 4000000 in
theorem l07Look_calls (AP : Option Addr) (cP : Nat) (pages : List ByteArray) (AL : Option Addr) (cL : Nat) (late : List S189) (w : World) (hP : Kd.C Kd.string w AP pages.length pages) (hcP : pages.length ≤ cP) (hL : Kd.C k189 w AL late.length late) (hcL : late.length ≤ cL) (rn : Int → S68 × Bool) (hrn : RnS pages late rn) (root : Int) :
  Calls Try.prog 96 #[.agg #[.slice AP pages.length cP, .slice AL late.length cL], .int .i64 root] w fun e w' => ∃ g Ag cg Ap cp Ad cd, e = .returned (.pointer (some ⟨g, 0, none⟩)) ∧
   TInv cellsS 138 w w' g (.slice Ag (look rn root).pg.length cg) (.slice Ap (look rn root).pr.length cp) (.slice Ad (look rn root).dp.length cd) (look rn root).order (look rn root).bad (look rn root).pg (look rn root).pr (look rn root).dp := by
 have HP := Aside0.mk hP
 have HL := Aside0.mk hL
 have HRN := Aside0.mk hrn
 have T0 : TInv cellsS 138 w ((w.alloc (.cells #[.slice AP pages.length cP, .slice AL late.length cL] 41)).alloc (.cells (cellsS (.slice none 0 0) (.slice none 0 0) (.slice none 0 0) false false) 138)) (w.heap.size + 1) (.slice none 0 0) (.slice none 0 0) (.slice none 0 0) false false [] [] [] :=
  ⟨by simpa using blk_new (w.alloc (.cells #[.slice AP pages.length cP, .slice AL late.length cL] 41)) (.cells (cellsS (.slice none 0 0) (.slice none 0 0) (.slice none 0 0) false false) 138), by omega, nil_int _ _, nil_pr _ _, nil_int _ _, fun k hk => by simp [Value.ownBlock] at hk, below_alloc (below_alloc (Below.refl _ _) _) _⟩
 have T := Aside0.mk T0
 clear hP hL hrn T0
 by_cases hr : root = 0
 ·subst hr
  have hst : look rn 0 = ss0 := if_pos rfl
  rw [hst]
  go_enter Try.func96, Try.ntmps96
  go_wp2
  go_ret
  exact ⟨_, _, _, _, _, _, _, rfl, T.out⟩
 ·have hst : look rn root = sw rn 9 ss0 root 0 ⟨#[]⟩ ⟨#[]⟩ false := if_neg hr
  have hrb : (root != 0) = true := by simpa using hr
  obtain ⟨st, hs⟩ : ∃ z, sw rn 9 ss0 root 0 ⟨#[]⟩ ⟨#[]⟩ false = z := ⟨_, rfl⟩
  rw [hst]
  have HC := Aside0.mk (walk_ok AP cP pages AL cL late w HP.out hcP HL.out hcL rn HRN.out (w.heap.size + 1) 9 ss0 root 0 ⟨#[]⟩ ⟨#[]⟩ false _ none 0 none 0 none 0 (by omega) (by omega) (by simp [nf, ss0]) (by simp [nf, ss0]) (by simp [nf, ss0]) T.out)
  rw [hs] at HC ⊢
  clear hs hst
  go_enter Try.func96, Try.ntmps96
  go_wp2_with fail
  unfold cellsS at HC
  ((with_reducible refine (HC.out).mono ?_); rintro e w1 ⟨rfl, Ag, cg, Ap, cp, Ad, cd, T1, _⟩)
  go_wp2
  go_ret
  exact ⟨_, _, _, _, _, _, _, rfl, T1⟩
def okS (st : TSt) : Bool := !st.bad && !st.order && ascPB st.pr && !(st.dp.any fun n => n != st.dp.getD 0 0)
set_option maxHeartbeats 16000000 in
theorem TreeOkS_calls (AP : Option Addr) (cP : Nat) (pages : List ByteArray) (AL : Option Addr) (cL : Nat) (late : List S189) (w : World) (hP : Kd.C Kd.string w AP pages.length pages) (hcP : pages.length ≤ cP) (hL : Kd.C k189 w AL late.length late) (hcL : late.length ≤ cL) (rn : Int → S68 × Bool) (hrn : RnS pages late rn) (root : Int) :
  Calls Try.prog 37 #[.agg #[.slice AP pages.length cP, .slice AL late.length cL], .int .i64 root] w fun e w' => e = .returned (.bool (okS (look rn root))) ∧ Below w.heap.size w w' := by
 have HP := Aside0.mk hP
 have HL := Aside0.mk hL
 have HRN := Aside0.mk hrn
 obtain ⟨st, hs⟩ : ∃ z, look rn root = z := ⟨_, rfl⟩
 rw [hs]
 obtain ⟨pg, pr, dp, order, bad⟩ := st
 have HST := Aside0.mk hs
 obtain ⟨r, hr⟩ : ∃ r, okS ⟨pg, pr, dp, order, bad⟩ = r := ⟨_, rfl⟩
 have HR := Aside0.mk hr
 rw [hr]
 clear hP hL hrn hs hr
 cases bad with
 | true =>
  go_enter Try.func37, Try.ntmps37
  go_wp2_with fail
  ((with_reducible refine (l07Look_calls AP cP pages AL cL late _ (Kd.C_below HP.out (below_alloc (Below.refl _ _) _)) hcP (Kd.C_below HL.out (below_alloc (Below.refl _ _) _)) hcL rn HRN.out root).mono ?_); rintro e w1 ⟨g, Ag, cg, Ap, cp, Ad, cd, rfl, T1⟩)
  rw [HST.out] at T1
  simp only at T1
  have T2 := Aside0.mk T1
  have HB2 := Aside0.mk (show Below w.heap.size w (w.alloc (.cells #[.slice AP pages.length cP, .slice AL late.length cL] 41)) from below_alloc (Below.refl _ _) _)
  clear T1
  have hgl := blk_lt T2.out.bT
  have hd0 : w1.cell? ⟨g, 0, none⟩ = some (.slice Ap pr.length cp) := (blk_cell T2.out.bT 0).trans rfl
  have hd2 : w1.cell? ⟨g, 2, none⟩ = some (.slice Ad dp.length cd) := (blk_cell T2.out.bT 2).trans rfl
  have hd3 : w1.cell? ⟨g, 3, none⟩ = some (.bool true) := (blk_cell T2.out.bT 3).trans rfl
  have hd4 : w1.cell? ⟨g, 4, none⟩ = some (.bool order) := (blk_cell T2.out.bT 4).trans rfl
  go_wp2
  go_ret
  exact ⟨by rw [← HR.out]; simp [okS], below_step HB2.out T2.out.bel⟩
 | false =>
  cases order with
  | true =>
   go_enter Try.func37, Try.ntmps37
   go_wp2_with fail
   ((with_reducible refine (l07Look_calls AP cP pages AL cL late _ (Kd.C_below HP.out (below_alloc (Below.refl _ _) _)) hcP (Kd.C_below HL.out (below_alloc (Below.refl _ _) _)) hcL rn HRN.out root).mono ?_); rintro e w1 ⟨g, Ag, cg, Ap, cp, Ad, cd, rfl, T1⟩)
   rw [HST.out] at T1
   simp only at T1
   have T2 := Aside0.mk T1
   have HB2 := Aside0.mk (show Below w.heap.size w (w.alloc (.cells #[.slice AP pages.length cP, .slice AL late.length cL] 41)) from below_alloc (Below.refl _ _) _)
   clear T1
   have hgl := blk_lt T2.out.bT
   have hd0 : w1.cell? ⟨g, 0, none⟩ = some (.slice Ap pr.length cp) := (blk_cell T2.out.bT 0).trans rfl
   have hd2 : w1.cell? ⟨g, 2, none⟩ = some (.slice Ad dp.length cd) := (blk_cell T2.out.bT 2).trans rfl
   have hd3 : w1.cell? ⟨g, 3, none⟩ = some (.bool false) := (blk_cell T2.out.bT 3).trans rfl
   have hd4 : w1.cell? ⟨g, 4, none⟩ = some (.bool true) := (blk_cell T2.out.bT 4).trans rfl
   go_wp2
   go_ret
   exact ⟨by rw [← HR.out]; simp [okS], below_step HB2.out T2.out.bel⟩
  | false =>
   go_enter Try.func37, Try.ntmps37
   go_wp2_with fail
   ((with_reducible refine (l07Look_calls AP cP pages AL cL late _ (Kd.C_below HP.out (below_alloc (Below.refl _ _) _)) hcP (Kd.C_below HL.out (below_alloc (Below.refl _ _) _)) hcL rn HRN.out root).mono ?_); rintro e w1 ⟨g, Ag, cg, Ap, cp, Ad, cd, rfl, T1⟩)
   rw [HST.out] at T1
   simp only at T1
   have T2 := Aside0.mk T1
   have HB2 := Aside0.mk (show Below w.heap.size w (w.alloc (.cells #[.slice AP pages.length cP, .slice AL late.length cL] 41)) from below_alloc (Below.refl _ _) _)
   clear T1
   have hgl := blk_lt T2.out.bT
   have hd0 : w1.cell? ⟨g, 0, none⟩ = some (.slice Ap pr.length cp) := (blk_cell T2.out.bT 0).trans rfl
   have hd2 : w1.cell? ⟨g, 2, none⟩ = some (.slice Ad dp.length cd) := (blk_cell T2.out.bT 2).trans rfl
   have hd3 : w1.cell? ⟨g, 3, none⟩ = some (.bool false) := (blk_cell T2.out.bT 3).trans rfl
   have hd4 : w1.cell? ⟨g, 4, none⟩ = some (.bool false) := (blk_cell T2.out.bT 4).trans rfl
   go_wp2
   go_loopg [6] pr.length (fun gg s6 wr => ∃ kk : Nat, 1 ≤ kk ∧ (kk ≤ pr.length ∨ kk = 1) ∧ pr.length - kk ≤ gg ∧ s6 = .int .i64 kk ∧ Aside0 (TInv cellsS 138 (w.alloc (.cells #[.slice AP pages.length cP, .slice AL late.length cL] 41)) wr g (.slice Ag pg.length cg) (.slice Ap pr.length cp) (.slice Ad dp.length cd) false false pg pr dp) ∧ Aside0 (∀ j (hj : j + 1 < pr.length), j + 1 < kk → lessB pr[j].f0 pr[j + 1].f0 = true))
   case atStart => exact ⟨1, by omega, .inr rfl, by omega, rfl, T2, ⟨fun j hj h => absurd h (by omega)⟩⟩
   case round =>
    clear T2 hd0 hd2 hd3 hd4 hgl
    obtain ⟨kk, hk1, hkk, hg, rfl, TK, A1⟩ := hrel
    have hgl := blk_lt TK.out.bT
    have hd0 : wr.cell? ⟨g, 0, none⟩ = some (.slice Ap pr.length cp) := (blk_cell TK.out.bT 0).trans rfl
    have hbig := (R_seen TK.out.rp).2.2.1
    by_cases hlt : kk < pr.length
    ·have hltz : (kk : Int) < (pr.length : Int) := by omega
     obtain ⟨ad, rfl, hcell, _⟩ := at_T140 (R_seen TK.out.rp).2 (kk : Int) (by omega) hltz
     rw [rd_T140_nat _ _ hlt, Int.toNat_natCast] at hcell
     obtain ⟨m, hm⟩ : ∃ m, kk = m + 1 := ⟨kk - 1, by omega⟩
     have hmlt : m < pr.length := by omega
     have hmz : (m : Int) < (pr.length : Int) := by omega
     obtain ⟨ad', e', hcell', _⟩ := at_T140 (R_seen TK.out.rp).2 (m : Int) (by omega) hmz
     obtain rfl : ad = ad' := by injection e'
     rw [rd_T140_nat _ _ hmlt, Int.toNat_natCast] at hcell'
     clear e'
     have hw1 : wrap64 ((kk : Int) - 1) = (m : Int) := by unfold wrap64; omega
     have hw2 : IntKind.i64.wrap ((kk : Int) - 1) = (m : Int) := (i64_w _).trans hw1
     obtain ⟨y, hy⟩ : ∃ y, pr[kk].f0 = y := ⟨_, rfl⟩
     obtain ⟨x, hx⟩ : ∃ x, pr[m].f0 = x := ⟨_, rfl⟩
     rw [hy] at hcell
     rw [hx] at hcell'
     have HYX := Aside0.mk (And.intro hy hx)
     have HM := Aside0.mk hm
     clear hy hx hm
     cases hless : Op.bytesLess x.toList y.toList with
     | true =>
      go_wp2
      repeat (go_quiet (fail); try go_wp2)
      have HW := Aside0.mk (show wrap64 ((kk : Int) + 1) = ((kk + 1 : Nat) : Int) by unfold wrap64; omega)
      clear hw1 hw2
      go_roundg (pr.length - (kk + 1))
      case measure => omega
      case rel =>
       refine ⟨kk + 1, by omega, .inl (by omega), by omega, by first | rfl | exact congrArg (Value.int .i64) HW.out, ⟨TK.out.below (Drawn0.below ⟨_, rfl⟩)⟩, ⟨fun j hj h => ?_⟩⟩
       have := HM.out
       by_cases e : j = m
       ·subst e
        subst this
        show Op.bytesLess _ _ = true
        rw [HYX.out.1, HYX.out.2]
        exact hless
       ·exact A1.out j hj (by omega)
     | false =>
      go_wp2
      repeat (go_quiet (fail); try go_wp2)
      go_ret
      refine ⟨?_, below_step HB2.out (TK.out.below (Drawn0.below ⟨_, rfl⟩)).bel⟩
      have hasc : ascPB pr = false := by
       cases hh : ascPB pr with
       | false => rfl
       | true =>
        have := HM.out
        subst this
        have hq := (ascPB_iff pr).1 hh m hlt
        unfold lessB at hq
        rw [HYX.out.1, HYX.out.2, hless] at hq
        cases hq
      rw [← HR.out]
      simp [okS, hasc]
    ·have hltz : ¬ (kk : Int) < (pr.length : Int) := by omega
     have HASC := Aside0.mk (show ascPB pr = true from (ascPB_iff pr).2 (fun j hj => A1.out j hj (by omega)))
     clear A1 hk1 hkk
     go_wp2
     go_loopg [7] dp.length (fun gg s7 wq => ∃ kj : Nat, 1 ≤ kj ∧ (kj ≤ dp.length ∨ kj = 1) ∧ dp.length - kj ≤ gg ∧ s7 = .int .i64 kj ∧ Aside0 (TInv cellsS 138 (w.alloc (.cells #[.slice AP pages.length cP, .slice AL late.length cL] 41)) wq g (.slice Ag pg.length cg) (.slice Ap pr.length cp) (.slice Ad dp.length cd) false false pg pr dp) ∧ Aside0 (∀ j (hj : j < dp.length), j < kj → dp[j] = dp.getD 0 0))
     case atStart => exact ⟨1, by omega, .inr rfl, by omega, rfl, TK, ⟨fun j hj h => by obtain rfl : j = 0 := (by omega); rw [List.getD_eq_getElem?_getD, List.getElem?_eq_getElem hj, Option.getD_some]⟩⟩
     case round =>
      clear TK hd0 hgl hlt hltz hg hbig
      obtain ⟨kj, hk1, hkj, hg, rfl, TK, A1⟩ := hrel
      have hgl := blk_lt TK.out.bT
      have hd2 : wr.cell? ⟨g, 2, none⟩ = some (.slice Ad dp.length cd) := (blk_cell TK.out.bT 2).trans rfl
      have hbig := (R_seen TK.out.rd).2.2.1
      by_cases hlt : kj < dp.length
      ·have hltz : (kj : Int) < (dp.length : Int) := by omega
       obtain ⟨ad, rfl⟩ := some_ad TK.out.rd (by omega)
       have hck := seen_int TK.out.rd hlt
       have hlz : (0 : Int) < (dp.length : Int) := by omega
       have h0 : wr.cell? ad = some (.int .i64 (dp.getD 0 0)) := by
        have h0 := seen_int TK.out.rd (show 0 < dp.length by omega)
        rw [List.getD_eq_getElem?_getD, List.getElem?_eq_getElem (show 0 < dp.length by omega), Option.getD_some]
        simpa [Addr.add] using h0
       obtain ⟨d0, hd0⟩ : ∃ d0, dp.getD 0 0 = d0 := ⟨_, rfl⟩
       obtain ⟨x, hx⟩ : ∃ x, dp[kj] = x := ⟨_, rfl⟩
       rw [hd0] at h0
       rw [hx] at hck
       have HD0 := Aside0.mk hd0
       have HX := Aside0.mk hx
       clear hd0 hx
       by_cases hne : x = d0
       ·subst hne
        go_wp2
        repeat (go_quiet (fail); try go_wp2)
        have HW := Aside0.mk (show wrap64 ((kj : Int) + 1) = ((kj + 1 : Nat) : Int) by unfold wrap64; omega)
        go_roundg (dp.length - (kj + 1))
        case measure => omega
        case rel =>
         refine ⟨kj + 1, by omega, .inl (by omega), by omega, by first | rfl | exact congrArg (Value.int .i64) HW.out, ⟨TK.out.below (Drawn0.below ⟨_, rfl⟩)⟩, ⟨fun j hj h => ?_⟩⟩
         by_cases e : j = kj
         ·subst e
          rw [HX.out, HD0.out]
         ·exact A1.out j hj (by omega)
       ·have hb1 : (x != d0) = true := by simpa using hne
        have hb2 : (x == d0) = false := by simpa using hne
        go_wp2
        repeat (go_quiet (fail); try go_wp2)
        go_ret
        refine ⟨?_, below_step HB2.out (TK.out.below (Drawn0.below ⟨_, rfl⟩)).bel⟩
        have hany : (dp.any fun n => n != dp.getD 0 0) = true := List.any_eq_true.2 ⟨dp[kj], List.getElem_mem hlt, by rw [HX.out, HD0.out]; exact hb1⟩
        rw [← HR.out]
        unfold okS
        simp only
        rw [hany]
        simp
      ·have hltz : ¬ (kj : Int) < (dp.length : Int) := by omega
       have hany : (dp.any fun n => n != dp.getD 0 0) = false := by
        cases hh : (dp.any fun n => n != dp.getD 0 0) with
        | false => rfl
        | true =>
         obtain ⟨x, hx, hp⟩ := List.any_eq_true.1 hh
         obtain ⟨j, hj, rfl⟩ := List.getElem_of_mem hx
         rw [A1.out j hj (by omega)] at hp
         simp at hp
       have HANY := Aside0.mk hany
       clear hany
       go_wp2
       go_ret
       refine ⟨?_, below_step HB2.out TK.out.bel⟩
       rw [← HR.out]
       unfold okS
       simp only
       rw [HANY.out, HASC.out]
       rfl
def RnB (pages : List ByteArray) (late : List S189) (rn : Int → S68 × Bool) : Prop := RnI pages late rn ∧ RnS pages late rn
open Classical in
noncomputable def rnOf (pages : List ByteArray) (late : List S189) : Option (Int → S68 × Bool) := if h : ∃ rn, RnB pages late rn then some (Classical.choose h) else none
theorem rnOf_some {pages : List ByteArray} {late : List S189} {rn : Int → S68 × Bool} (h : rnOf pages late = some rn) : RnB pages late rn := by
 unfold rnOf at h
 split at h
 ·rename_i hx
  injection h with h
  rw [← h]
  exact Classical.choose_spec hx
 ·cases h
theorem rnOf_ex {pages : List ByteArray} {late : List S189} (h : ∃ rn, RnB pages late rn) : ∃ rn, rnOf pages late = some rn := by
 unfold rnOf
 rw [dif_pos h]
 exact ⟨_, rfl⟩
noncomputable def impl_TreeOk.f (l0_0 : List ByteArray) (l0_1 : List S189) (a1 : Int) : Option Bool := (rnOf l0_0 l0_1).map fun rn => okI (tof rn a1)
noncomputable def spec_TreeOk.f (l0_0 : List ByteArray) (l0_1 : List S189) (a1 : Int) : Option Bool := (rnOf l0_0 l0_1).map fun rn => okS (look rn a1)
theorem impl_TreeOk.calls (A0_0 : Option Addr) (c0_0 : Nat) (l0_0 : List ByteArray) (A0_1 : Option Addr) (c0_1 : Nat) (l0_1 : List S189) (a1 : Int) (r : Bool) (w : World) (hr0_0 : Kd.C Kd.string w A0_0 l0_0.length l0_0) (hc0_0 : l0_0.length ≤ c0_0) (hr0_1 : Kd.C k189 w A0_1 l0_1.length l0_1) (hc0_1 : l0_1.length ≤ c0_1) (h : impl_TreeOk.f l0_0 l0_1 a1 = some r) :
  Calls Try.prog 39 #[.agg #[.slice A0_0 l0_0.length c0_0, .slice A0_1 l0_1.length c0_1], .int .i64 a1] w fun e w' => e = .returned (.bool r) ∧ Below w.heap.size w w' := by
 obtain ⟨rn, h1, rfl⟩ := Option.map_eq_some_iff.1 h
 exact TreeOk_calls A0_0 c0_0 l0_0 A0_1 c0_1 l0_1 w hr0_0 hc0_0 hr0_1 hc0_1 rn (rnOf_some h1).1 a1
theorem spec_TreeOk.calls (A0_0 : Option Addr) (c0_0 : Nat) (l0_0 : List ByteArray) (A0_1 : Option Addr) (c0_1 : Nat) (l0_1 : List S189) (a1 : Int) (r : Bool) (w : World) (hr0_0 : Kd.C Kd.string w A0_0 l0_0.length l0_0) (hc0_0 : l0_0.length ≤ c0_0) (hr0_1 : Kd.C k189 w A0_1 l0_1.length l0_1) (hc0_1 : l0_1.length ≤ c0_1) (h : spec_TreeOk.f l0_0 l0_1 a1 = some r) :
  Calls Try.prog 37 #[.agg #[.slice A0_0 l0_0.length c0_0, .slice A0_1 l0_1.length c0_1], .int .i64 a1] w fun e w' => e = .returned (.bool r) ∧ Below w.heap.size w w' := by
 obtain ⟨rn, h1, rfl⟩ := Option.map_eq_some_iff.1 h
 exact TreeOkS_calls A0_0 c0_0 l0_0 A0_1 c0_1 l0_1 w hr0_0 hc0_0 hr0_1 hc0_1 rn (rnOf_some h1).2 a1
end Go.Proofs.Ytapholbdjccapaa.PFnExactTreeOk
namespace Go.Proofs.Ytapholbdjccapaa.PFnExactTreeOk
open Go.RowKit Go.Proofs.YtapholbdjccapaaW.PrintWords Go.Proofs.YtapholbdjccapaaW.PrintLast Go.Proofs.YtapholbdjccapaaW.PrintMore
set_option linter.unusedVariables false
set_option linter.unusedSimpArgs false
def RnG (rn : Int → S68 × Bool) : Prop := ∀ page, (rn page).2 = true → (∀ i, i + 1 < (rn page).1.f1.length → lessB ((rn page).1.f1.getD i ByteArray.empty) ((rn page).1.f1.getD (i + 1) ByteArray.empty) = true) ∧ ((rn page).1.f0 = false → (rn page).1.f3.length = (rn page).1.f1.length)
theorem any_or3 {α : Type} (p q r : α → Bool) : ∀ l : List α, (l.any fun x => p x || q x || r x) = (l.any p || l.any q || l.any r)
 | [] => rfl
 | x :: l => by
  simp only [List.any_cons, any_or3 p q r l]
  cases p x <;> cases q x <;> cases r x <;> cases l.any p <;> cases l.any q <;> cases l.any r <;> rfl
theorem any_andc {α : Type} (c : Bool) (p : α → Bool) : ∀ l : List α, (l.any fun x => c && p x) = (c && l.any p)
 | [] => by cases c <;> rfl
 | x :: l => by
  simp only [List.any_cons, any_andc c p l]
  cases c <;> rfl
theorem lt_le {a b c : List UInt8} (h : a < b) (k : b ≤ c) : a < c := by
 by_cases hac : a < c
 ·exact hac
 ·exact absurd (List.lt_of_le_of_lt (List.not_lt.1 hac) h) (List.not_lt.2 k)
theorem not_less {x y : List UInt8} : ¬ x < y ↔ y ≤ x := List.not_lt
theorem out_kid (low high k k' y : ByteArray) (has more : Bool) (hm : more = true → (has = false ∨ Op.bytesLess k'.toList high.toList = true)) (i1 : Bool) (h1 : more = (i1 && (!has || Op.bytesLess k'.toList high.toList))) :
  outB (leastB low k) (if more = true then k' else high) (has || more) y = (outB low high has y || Op.bytesLess y.toList k.toList || (i1 && !(Op.bytesLess y.toList k'.toList))) := by
 have hl : Op.bytesLess y.toList (leastB low k).toList = (Op.bytesLess y.toList low.toList || Op.bytesLess y.toList k.toList) := by
  unfold leastB
  cases hlk : Op.bytesLess low.toList k.toList
  ·rw [if_neg (by simp)]
   rw [bytesLt] at hlk
   have hkl := not_less.1 (of_decide_eq_false hlk)
   rw [bytesLt, bytesLt]
   by_cases h : y.toList < k.toList
   ·rw [decide_eq_true (lt_le h hkl)]; rfl
   ·rw [decide_eq_false h, Bool.or_false]
  ·rw [if_pos rfl]
   rw [bytesLt] at hlk
   have hkl := of_decide_eq_true hlk
   rw [bytesLt, bytesLt]
   by_cases h : y.toList < low.toList
   ·rw [decide_eq_true h, decide_eq_true (List.lt_trans h hkl)]; rfl
   ·rw [decide_eq_false h, Bool.false_or]
 have hh : ((has || more) && !(Op.bytesLess y.toList (if more = true then k' else high).toList)) = ((has && !(Op.bytesLess y.toList high.toList)) || (i1 && !(Op.bytesLess y.toList k'.toList))) := by
  cases i1 with
  | false =>
   have : more = false := by rw [h1]; rfl
   subst this
   simp
  | true =>
   rw [Bool.true_and] at h1
   cases has with
   | false =>
    have : more = true := by rw [h1]; rfl
    subst this
    simp
   | true =>
    cases hk : Op.bytesLess k'.toList high.toList with
    | true =>
     have : more = true := by rw [h1, hk]; rfl
     subst this
     simp only [Bool.or_self, Bool.true_and, if_true]
     rw [bytesLt] at hk
     have hkl := of_decide_eq_true hk
     rw [bytesLt, bytesLt]
     by_cases h : y.toList < k'.toList
     ·rw [decide_eq_true h, decide_eq_true (List.lt_trans h hkl)]; rfl
     ·rw [decide_eq_false h]; cases decide (y.toList < high.toList) <;> rfl
    | false =>
     have : more = false := by rw [h1, hk]; rfl
     subst this
     simp only [Bool.or_false, Bool.true_and, Bool.false_eq_true, if_false]
     rw [bytesLt] at hk
     have hkl := not_less.1 (of_decide_eq_false hk)
     rw [bytesLt, bytesLt]
     by_cases h : y.toList < high.toList
     ·rw [decide_eq_true h, decide_eq_true (lt_le h hkl)]; rfl
     ·rw [decide_eq_false h]; rfl
 show (Op.bytesLess y.toList (leastB low k).toList || ((has || more) && !(Op.bytesLess y.toList (if more = true then k' else high).toList))) = _
 rw [hl, hh]
 unfold outB
 cases Op.bytesLess y.toList low.toList <;> cases Op.bytesLess y.toList k.toList <;> cases (has && !(Op.bytesLess y.toList high.toList)) <;> rfl
def Sy (st st' : TSt) : Prop := st.pg = st'.pg ∧ st.pr = st'.pr ∧ st.dp = st'.dp.map (· + 1) ∧ st.bad = false ∧ st'.bad = false
def SyEnd (st st' a b : TSt) (low high : ByteArray) (has : Bool) : Prop :=
 (a.bad = true ∧ b.bad = true) ∨ (Sy a b ∧ ∃ (new : List S140) (L : Bool), a.pr = st.pr ++ new ∧ a.order = (st.order && L) ∧ b.order = (st'.order || !L || new.any fun x => outB low high has x.f0))
theorem sw_stays (rn : Int → S68 × Bool) (f : Nat) (st : TSt) (page deep : Int) (low high : ByteArray) (has : Bool) (h : st.bad = true) : (sw rn f st page deep low high has).bad = true := by
 cases f with
 | zero => rfl
 | succ f => rw [sw, if_pos (.inr (.inr (.inr h)))]
theorem swKids_stays (rn : Int → S68 × Bool) (f : Nat) (deep : Int) (keys : List ByteArray) (kids : List Int) (low high : ByteArray) (has : Bool) : ∀ (n i : Nat) (st : TSt), st.bad = true → (swKids (fun s k lo hi ha => sw rn f s k deep lo hi ha) keys kids low high has i n st).bad = true
 | 0, i, st, h => h
 | n + 1, i, st, h => swKids_stays rn f deep keys kids low high has n (i + 1) _ (sw_stays rn f st _ _ _ _ _ h)
theorem any_mono {α : Type} {p q : α → Bool} (h : ∀ x, p x = true → q x = true) : ∀ l : List α, l.any p = true → l.any q = true := by
 intro l hl
 obtain ⟨x, hx, hp⟩ := List.any_eq_true.1 hl
 exact List.any_eq_true.2 ⟨x, hx, h x hp⟩
theorem kids_sync (rn : Int → S68 × Bool) (f : Nat) (deep : Int) (keys : List ByteArray) (kids : List Int) (low high : ByteArray) (has : Bool) (hasc : ∀ i, i + 1 < keys.length → lessB (keys.getD i ByteArray.empty) (keys.getD (i + 1) ByteArray.empty) = true)
  (ih : ∀ st st' page low high has, Sy st st' → SyEnd st st' (dn rn f st page (deep + 1)) (sw rn f st' page deep low high has) low high has) (o0 o0' : Bool) (P0 : List S140) :
  ∀ (n i : Nat) (s s' : TSt) (acc : List S140) (L : Bool), i + n = keys.length → Sy s s' → s.pr = P0 ++ acc → s.order = (o0 && L) → s'.order = (o0' || !L || (acc.any fun x => outB low high has x.f0) || (decide (i < keys.length) && acc.any fun x => !(belowK (keys.getD i ByteArray.empty) x))) →
   ((dnKids (fun s k => dn rn f s k (deep + 1)) keys kids P0.length i n s).bad = true ∧ (swKids (fun s k lo hi ha => sw rn f s k deep lo hi ha) keys kids low high has i n s').bad = true) ∨
    (Sy (dnKids (fun s k => dn rn f s k (deep + 1)) keys kids P0.length i n s) (swKids (fun s k lo hi ha => sw rn f s k deep lo hi ha) keys kids low high has i n s') ∧ ∃ (new : List S140) (L : Bool), (dnKids (fun s k => dn rn f s k (deep + 1)) keys kids P0.length i n s).pr = P0 ++ new ∧
     (dnKids (fun s k => dn rn f s k (deep + 1)) keys kids P0.length i n s).order = (o0 && L) ∧ (swKids (fun s k lo hi ha => sw rn f s k deep lo hi ha) keys kids low high has i n s').order = (o0' || !L || new.any fun x => outB low high has x.f0))
 | 0, i, s, s', acc, L, hi, hs, hp, ho, ho' => by
  refine .inr ⟨hs, acc, L, hp, ho, ?_⟩
  rw [show decide (i < keys.length) = false from decide_eq_false (by omega)] at ho'
  show s'.order = _
  simpa using ho'
 | n + 1, i, s, s', acc, L, hi, hs, hp, ho, ho' => by
  simp only [dnKids, swKids]
  have hend := ih s s' (kids.getD i 0) (leastB low (keys.getD i ByteArray.empty)) (nextB keys high has i) (has || moreB keys high has i) hs
  generalize ha : dn rn f s (kids.getD i 0) (deep + 1) = a at hend ⊢
  generalize hb : sw rn f s' (kids.getD i 0) deep (leastB low (keys.getD i ByteArray.empty)) (nextB keys high has i) (has || moreB keys high has i) = b at hend ⊢
  rcases hend with ⟨h1, h2⟩ | ⟨hsy, new, Lc, e1, e2, e3⟩
  ·rw [if_pos h1]
   exact .inl ⟨h1, swKids_stays rn f deep keys kids low high has n (i + 1) b h2⟩
  ·rw [if_neg (by rw [hsy.2.2.2.1]; simp)]
   have hpl : s.pr.length = P0.length + acc.length := by rw [hp, List.length_append]
   have d1 : a.pr.drop s.pr.length = new := by rw [e1, List.drop_left]
   have d2 : (a.pr.take s.pr.length).drop P0.length = acc := by rw [e1, List.take_left, hp, List.drop_left]
   rw [d1, d2]
   have hmore : moreB keys high has i = (decide (i + 1 < keys.length) && (!has || Op.bytesLess (keys.getD (i + 1) ByteArray.empty).toList high.toList)) := rfl
   have hout : (new.any fun x => outB (leastB low (keys.getD i ByteArray.empty)) (nextB keys high has i) (has || moreB keys high has i) x.f0) = ((new.any fun x => outB low high has x.f0) || (new.any (belowK (keys.getD i ByteArray.empty))) || (decide (i + 1 < keys.length) && new.any fun x => !(belowK (keys.getD (i + 1) ByteArray.empty) x))) := by
    rw [← any_andc, ← any_or3]
    congr 1
    funext x
    unfold nextB
    exact out_kid low high (keys.getD i ByteArray.empty) (keys.getD (i + 1) ByteArray.empty) x.f0 has (moreB keys high has i) (fun h => by
     rw [hmore] at h
     simp only [Bool.and_eq_true, Bool.or_eq_true, Bool.not_eq_true'] at h
     exact h.2) (decide (i + 1 < keys.length)) hmore
   have hmon : i + 1 < keys.length → (acc.any fun x => !(belowK (keys.getD (i + 1) ByteArray.empty) x)) = true → (acc.any fun x => !(belowK (keys.getD i ByteArray.empty) x)) = true := by
    intro hlt
    refine any_mono (fun x hx => ?_) acc
    have hk := hasc i hlt
    unfold belowK at hx ⊢
    unfold lessB at hk
    rw [bytesLt] at hx hk ⊢
    have h2 := of_decide_eq_true hk
    by_cases h : x.f0.toList < (keys.getD i ByteArray.empty).toList
    ·rw [decide_eq_true (List.lt_trans h h2)] at hx
     cases hx
    ·rw [decide_eq_false h]; rfl
   refine kids_sync rn f deep keys kids low high has hasc ih o0 o0' P0 n (i + 1) _ _ (acc ++ new) (L && Lc && !(new.any (belowK (keys.getD i ByteArray.empty))) && !(acc.any fun x => !(belowK (keys.getD i ByteArray.empty) x))) (by omega) ⟨hsy.1, hsy.2.1, hsy.2.2.1, hsy.2.2.2.1, hsy.2.2.2.2⟩ ?_ ?_ ?_
   ·show a.pr = _
    rw [e1, hp, List.append_assoc]
   ·show (a.order && _ && _) = _
    rw [e2, ho]
    cases o0 <;> cases L <;> cases Lc <;> simp
   ·rw [e3, ho', hout, decide_eq_true (show i < keys.length by omega), List.any_append, List.any_append]
    generalize (acc.any fun x => !(belowK (keys.getD (i + 1) ByteArray.empty) x)) = A1 at hmon ⊢
    generalize (acc.any fun x => !(belowK (keys.getD i ByteArray.empty) x)) = A0 at hmon ⊢
    generalize (acc.any fun x => outB low high has x.f0) = B0
    generalize (new.any fun x => outB low high has x.f0) = B1
    generalize (new.any (belowK (keys.getD i ByteArray.empty))) = B2
    generalize (new.any fun x => !(belowK (keys.getD (i + 1) ByteArray.empty) x)) = B3
    by_cases hlt : i + 1 < keys.length
    ·rw [decide_eq_true hlt]
     have hm := hmon hlt
     cases A1 with
     | false => cases o0' <;> cases L <;> cases Lc <;> cases A0 <;> cases B0 <;> cases B1 <;> cases B2 <;> cases B3 <;> rfl
     | true =>
      rw [hm rfl]
      cases o0' <;> cases L <;> cases Lc <;> cases B0 <;> cases B1 <;> cases B2 <;> cases B3 <;> rfl
    ·rw [decide_eq_false hlt]
     cases o0' <;> cases L <;> cases Lc <;> cases A0 <;> cases B0 <;> cases B1 <;> cases B2 <;> rfl
theorem sync {rn : Int → S68 × Bool} (hg : RnG rn) : ∀ (f : Nat) (deep : Int) (st st' : TSt) (page : Int) (low high : ByteArray) (has : Bool), Sy st st' → SyEnd st st' (dn rn f st page (deep + 1)) (sw rn f st' page deep low high has) low high has
 | 0, deep, st, st', page, low, high, has, hs => .inl ⟨rfl, rfl⟩
 | f + 1, deep, st, st', page, low, high, has, hs => by
  obtain ⟨s1, s2, s3, s4, s5⟩ := hs
  rw [dn, sw]
  by_cases hb : (rn page).2 = false ∨ deep ≥ 8 ∨ st'.pg.contains page = true ∨ st'.bad = true
  ·rw [if_pos hb, if_pos (by rw [s1, s4, s5] at *; rcases hb with h | h | h | h; exact .inr (.inl h); exact .inr (.inr (.inl (by omega))); exact .inr (.inr (.inr h)); cases h)]
   exact .inl ⟨rfl, rfl⟩
  ·have hok : (rn page).2 = true := by
    cases h : (rn page).2
    ·exact absurd (.inl h) hb
    ·rfl
   rw [if_neg hb, if_neg (by rw [s1, s4]; intro h; rcases h with h | h | h | h; cases h; exact hb (.inl h); exact hb (.inr (.inl (by omega))); exact hb (.inr (.inr (.inl h))))]
   cases hleaf : (rn page).1.f0
   ·rw [if_neg (by simp), if_neg (by simp)]
    obtain ⟨hasc, hlen⟩ := hg page hok
    have hk := kids_sync rn f (deep + 1) (rn page).1.f1 (rn page).1.f3 low high has hasc (fun st st' page low high has h => sync hg f (deep + 1) st st' page low high has h) st.order st'.order st.pr (rn page).1.f1.length 0 ⟨st.pg ++ [page], st.pr, st.dp, st.order, st.bad⟩ ⟨st'.pg ++ [page], st'.pr, st'.dp, st'.order, st'.bad⟩ [] true (by omega) ⟨by rw [s1], s2, s3, s4, s5⟩ (by simp) (by simp) (by simp)
    rw [hlen hleaf]
    rcases hk with h | ⟨h1, new, L, h2, h3, h4⟩
    ·exact .inl h
    ·exact .inr ⟨h1, new, L, h2, h3, h4⟩
   ·rw [if_pos rfl, if_pos rfl]
    refine .inr ⟨⟨by rw [s1], by rw [s2], by rw [s3, List.map_append, List.map_singleton], s4, s5⟩, pairsTo (rn page).1.f1 (rn page).1.f2 (rn page).1.f1.length, true, rfl, by simp, ?_⟩
    show (st'.order || _) = _
    congr 1
    ·simp
    ·unfold pairsTo
     rw [List.any_map]
     have : (rn page).1.f1 = (List.range (rn page).1.f1.length).map fun i => (rn page).1.f1.getD i ByteArray.empty := by
      apply List.ext_getElem
      ·simp
      ·intro j h1 h2
       simp [List.getD_eq_getElem?_getD, List.getElem?_eq_getElem h1]
     conv => lhs; rw [this]
     rw [List.any_map]
     rfl
theorem ok_same {rn : Int → S68 × Bool} (hg : RnG rn) (root : Int) : okI (tof rn root) = okS (look rn root) := by
 unfold tof look
 by_cases hr : root = 0
 ·rw [if_pos hr, if_pos hr]
  rfl
 ·rw [if_neg hr, if_neg hr]
  have h := sync hg 9 0 st0 ss0 root ⟨#[]⟩ ⟨#[]⟩ false ⟨rfl, rfl, rfl, rfl, rfl⟩
  rw [Int.zero_add] at h
  generalize dn rn 9 st0 root 1 = a at h ⊢
  generalize sw rn 9 ss0 root 0 ⟨#[]⟩ ⟨#[]⟩ false = b at h ⊢
  rcases h with ⟨h1, h2⟩ | ⟨⟨s1, s2, s3, s4, s5⟩, new, L, e1, e2, e3⟩
  ·unfold okI okS
   rw [h1, h2]
   rfl
  ·have hno : (new.any fun x => outB ⟨#[]⟩ ⟨#[]⟩ false x.f0) = false := by
    cases h : new.any fun x => outB ⟨#[]⟩ ⟨#[]⟩ false x.f0
    ·rfl
    ·obtain ⟨x, hx, hp⟩ := List.any_eq_true.1 h
     unfold outB at hp
     rw [bytesLt] at hp
     simp at hp
   have hany : (a.dp.any fun n => n != a.dp.getD 0 0) = (b.dp.any fun n => n != b.dp.getD 0 0) := by
    rw [s3, List.any_map]
    cases b.dp with
    | nil => rfl
    | cons d l =>
     congr 1
     funext x
     simp only [List.map_cons, List.getD_cons_zero, Function.comp]
     by_cases h : x = d
     ·subst h; simp
     ·have : x + 1 ≠ d + 1 := by omega
      rw [bne_iff_ne.2 this, bne_iff_ne.2 h]
   unfold okI okS
   rw [s4, s5, s2, e2, e3, hno, hany]
   show _ = _
   cases L <;> simp [st0, ss0]
end Go.Proofs.Ytapholbdjccapaa.PFnExactTreeOk
