import Derived.Test.YtapholbdjccapaaTA8
namespace Go.Proofs.Ytapholbdjccapaa.PFnExactTreeOk
open Go.RowKit Go.Proofs.YtapholbdjccapaaW.PrintWords Go.Proofs.YtapholbdjccapaaW.PrintLast Go.Proofs.YtapholbdjccapaaW.PrintMore
set_option linter.unusedVariables false
set_option linter.unusedSimpArgs false
def RnLen (rn : Int → S68 × Bool) : Prop := ∀ page, (rn page).2 = true → (rn page).1.f1.length ≤ 4 ∧ ((rn page).1.f0 = false → (rn page).1.f3.length = (rn page).1.f1.length)
theorem RnI.len {pages : List ByteArray} {late : List S189} {rn : Int → S68 × Bool} (h : RnI pages late rn) : RnLen rn := by
 intro page hok
 obtain ⟨s, _, _, hc⟩ := h page
 rcases hc with hc | hc
 ·obtain ⟨hshape, _⟩ := (nodeOk_iff _ _ _ _).1 hc.2
  exact ⟨hshape.1.2, fun hl => (hshape.2.2 hl).1⟩
 ·rw [hc.1] at hok; cases hok
theorem kids_len {rn : Int → S68 × Bool} {f : Nat} {deep : Int} {keys : List ByteArray} {kids : List Int} {first : Nat}
  (ih : ∀ st page deep, (dn rn f st page deep).pg.length ≤ st.pg.length + nf f ∧ st.pr.length ≤ (dn rn f st page deep).pr.length ∧ (dn rn f st page deep).pr.length ≤ st.pr.length + 4 * nf f ∧ (dn rn f st page deep).dp.length ≤ st.dp.length + nf f) :
  ∀ (n i : Nat) (st : TSt), (dnKids (fun s k => dn rn f s k deep) keys kids first i n st).pg.length ≤ st.pg.length + n * nf f ∧ st.pr.length ≤ (dnKids (fun s k => dn rn f s k deep) keys kids first i n st).pr.length ∧ (dnKids (fun s k => dn rn f s k deep) keys kids first i n st).pr.length ≤ st.pr.length + n * (4 * nf f) ∧ (dnKids (fun s k => dn rn f s k deep) keys kids first i n st).dp.length ≤ st.dp.length + n * nf f
 | 0, i, st => by simp [dnKids]
 | n + 1, i, st => by
  have h1 := ih st (kids.getD i 0) deep
  have e1 : (n + 1) * nf f = n * nf f + nf f := Nat.succ_mul _ _
  have e2 : (n + 1) * (4 * nf f) = n * (4 * nf f) + 4 * nf f := Nat.succ_mul _ _
  rw [e1, e2]
  simp only [dnKids]
  split
  ·omega
  ·have h2 := kids_len (keys := keys) (kids := kids) (first := first) (deep := deep) ih n (i + 1) ⟨(dn rn f st (kids.getD i 0) deep).pg, (dn rn f st (kids.getD i 0) deep).pr, (dn rn f st (kids.getD i 0) deep).dp,
    (dn rn f st (kids.getD i 0) deep).order && !(((dn rn f st (kids.getD i 0) deep).pr.drop st.pr.length).any (belowK (keys.getD i ByteArray.empty))) && !((((dn rn f st (kids.getD i 0) deep).pr.take st.pr.length).drop first).any fun x => !(belowK (keys.getD i ByteArray.empty) x)), (dn rn f st (kids.getD i 0) deep).bad⟩
   simp only at h2
   omega
theorem dn_len {rn : Int → S68 × Bool} (hl : RnLen rn) : ∀ (f : Nat) (st : TSt) (page deep : Int), (dn rn f st page deep).pg.length ≤ st.pg.length + nf f ∧ st.pr.length ≤ (dn rn f st page deep).pr.length ∧ (dn rn f st page deep).pr.length ≤ st.pr.length + 4 * nf f ∧ (dn rn f st page deep).dp.length ≤ st.dp.length + nf f
 | 0, st, page, deep => by simp [dn, nf]
 | f + 1, st, page, deep => by
  simp only [dn, nf]
  split
  ·simp only; omega
  ·rename_i hb
   have hok : (rn page).2 = true := by
    cases h : (rn page).2
    ·exact absurd (.inr (.inl h)) hb
    ·rfl
   obtain ⟨h1, h2⟩ := hl page hok
   split
   ·simp only [List.length_append, pairsTo_len, List.length_cons, List.length_nil]; omega
   ·rename_i hleaf
    have h3 := kids_len (keys := (rn page).1.f1) (kids := (rn page).1.f3) (first := st.pr.length) (deep := deep + 1) (dn_len hl f) (rn page).1.f3.length 0 ⟨st.pg ++ [page], st.pr, st.dp, st.order, st.bad⟩
    have h4 := h2 (by simpa using hleaf)
    have e1 : (rn page).1.f3.length * nf f ≤ 4 * nf f := Nat.mul_le_mul_right _ (by omega)
    have e2 : (rn page).1.f3.length * (4 * nf f) ≤ 4 * (4 * nf f) := Nat.mul_le_mul_right _ (by omega)
    simp only [List.length_append, List.length_cons, List.length_nil] at h3
    omega
theorem down_ok (AP : Option Addr) (cP : Nat) (pages : List ByteArray) (AL : Option Addr) (cL : Nat) (late : List S189) (w0 : World) (hP : Kd.C Kd.string w0 AP pages.length pages) (hcP : pages.length ≤ cP) (hL : Kd.C k189 w0 AL late.length late) (hcL : late.length ≤ cL) (rn : Int → S68 × Bool) (hrn : RnI pages late rn) (g : Nat) : ∀ (f : Nat) (st : TSt) (page deep : Int) (w : World) (Ag : Option Addr) (cg : Nat) (Ap : Option Addr) (cp : Nat) (Ad : Option Addr) (cd : Nat), deep + (f : Int) = 10 → 1 ≤ deep → st.pg.length + nf f ≤ 1000000 → st.pr.length + 4 * nf f ≤ 1000000 → st.dp.length + nf f ≤ 1000000 →
  TInv (cellsI (.slice AP pages.length cP) (.slice AL late.length cL)) 146 w0 w g (.slice Ag st.pg.length cg) (.slice Ap st.pr.length cp) (.slice Ad st.dp.length cd) st.order st.bad st.pg st.pr st.dp →
  Calls Try.prog 142 #[.pointer (some ⟨g, 0, none⟩), .int .i64 page, .int .i64 deep] w (DownPost (cellsI (.slice AP pages.length cP) (.slice AL late.length cL)) 146 w0 w g (.slice Ag st.pg.length cg) (.slice Ap st.pr.length cp) (.slice Ad st.dp.length cd) (dn rn f st page deep))
 | 0, st, page, deep, w, Ag, cg, Ap, cp, Ad, cd, hf, h1, l1, l2, l3, hT => by
  exact down_bad AP cP pages AL cL late w0 hP hcP hL hcL rn hrn g st page deep w Ag cg Ap cp Ad cd hT (.inr (.inr (.inl (by omega))))
 | f + 1, st, page, deep, w, Ag, cg, Ap, cp, Ad, cd, hf, h1, l1, l2, l3, hT => by
  simp only [nf] at l1 l2 l3
  rw [dn]
  split
  ·rename_i hb
   exact down_bad AP cP pages AL cL late w0 hP hcP hL hcL rn hrn g st page deep w Ag cg Ap cp Ad cd hT hb
  ·rename_i hb
   have hbad : st.bad = false := by
    cases h : st.bad
    ·rfl
    ·exact absurd (.inl h) hb
   have hok : (rn page).2 = true := by
    cases h : (rn page).2
    ·exact absurd (.inr (.inl h)) hb
    ·rfl
   have hd : deep ≤ 8 := by
    by_cases h : deep > 8
    ·exact absurd (.inr (.inr (.inl h))) hb
    ·omega
   have hcon : st.pg.contains page = false := by
    cases h : st.pg.contains page
    ·rfl
    ·exact absurd (.inr (.inr (.inr h))) hb
   cases hleaf : (rn page).1.f0
   ·rw [if_neg (by simp)]
    exact down_branch AP cP pages AL cL late w0 hP hcP hL hcL rn hrn g st page deep w Ag cg Ap cp Ad cd hT f (nf f)
     (fun s' kid W Ag' cg' Ap' cp' Ad' cd' k1 k2 k3 k4 => down_ok AP cP pages AL cL late w0 hP hcP hL hcL rn hrn g f s' kid (deep + 1) W Ag' cg' Ap' cp' Ad' cd' (by omega) (by omega) k1 k2 k3 k4)
     (fun s' kid => dn_len hrn.len f s' kid (deep + 1)) hbad hok h1 hd hcon hleaf (by omega) (by omega) (by omega)
   ·rw [if_pos rfl]
    exact down_leaf AP cP pages AL cL late w0 hP hcP hL hcL rn hrn g st page deep w Ag cg Ap cp Ad cd hT hbad hok hd hcon hleaf (by omega) (by omega) (by omega)
def st0 : TSt := ⟨[], [], [], true, false⟩
def tof (rn : Int → S68 × Bool) (root : Int) : TSt := if root = 0 then st0 else dn rn 9 st0 root 1
theorem nil_pr (W : World) (b : Nat) : Kd.R k140 140 W b (fun _ => True) (.slice none 0 0) [] := Kd.R_nil _ _ _ _ _
theorem nil_int (W : World) (b : Nat) : Kd.R (Kd.int .i64) 3 W b (fun _ => True) (.slice none 0 0) [] := Kd.R_nil _ _ _ _ _
set_option maxHeartbeats 4000000 in
theorem treeOf_calls (AP : Option Addr) (cP : Nat) (pages : List ByteArray) (AL : Option Addr) (cL : Nat) (late : List S189) (w : World) (hP : Kd.C Kd.string w AP pages.length pages) (hcP : pages.length ≤ cP) (hL : Kd.C k189 w AL late.length late) (hcL : late.length ≤ cL) (rn : Int → S68 × Bool) (hrn : RnI pages late rn) (root : Int) :
  Calls Try.prog 99 #[.agg #[.slice AP pages.length cP, .slice AL late.length cL], .int .i64 root] w fun e w' => ∃ g Ag cg Ap cp Ad cd, e = .returned (.pointer (some ⟨g, 0, none⟩)) ∧
   TInv (cellsI (.slice AP pages.length cP) (.slice AL late.length cL)) 146 w w' g (.slice Ag (tof rn root).pg.length cg) (.slice Ap (tof rn root).pr.length cp) (.slice Ad (tof rn root).dp.length cd) (tof rn root).order (tof rn root).bad (tof rn root).pg (tof rn root).pr (tof rn root).dp := by
 have HP := Aside0.mk hP
 have HL := Aside0.mk hL
 have HRN := Aside0.mk hrn
 have T0 : TInv (cellsI (.slice AP pages.length cP) (.slice AL late.length cL)) 146 w ((w.alloc (.cells #[.slice AP pages.length cP, .slice AL late.length cL] 41)).alloc (.cells (cellsI (.slice AP pages.length cP) (.slice AL late.length cL) (.slice none 0 0) (.slice none 0 0) (.slice none 0 0) true false) 146)) (w.heap.size + 1) (.slice none 0 0) (.slice none 0 0) (.slice none 0 0) true false [] [] [] :=
  ⟨by simpa using blk_new (w.alloc (.cells #[.slice AP pages.length cP, .slice AL late.length cL] 41)) (.cells (cellsI (.slice AP pages.length cP) (.slice AL late.length cL) (.slice none 0 0) (.slice none 0 0) (.slice none 0 0) true false) 146), by omega, nil_int _ _, nil_pr _ _, nil_int _ _, fun k hk => by simp [Value.ownBlock] at hk, below_alloc (below_alloc (Below.refl _ _) _) _⟩
 have T := Aside0.mk T0
 clear hP hL hrn T0
 by_cases hr : root = 0
 ·subst hr
  have hst : tof rn 0 = st0 := if_pos rfl
  rw [hst]
  go_enter Try.func99, Try.ntmps99
  go_wp2
  go_ret
  exact ⟨_, _, _, _, _, _, _, rfl, T.out⟩
 ·have hst : tof rn root = dn rn 9 st0 root 1 := if_neg hr
  have hrb : (root != 0) = true := by simpa using hr
  obtain ⟨st, hs⟩ : ∃ z, dn rn 9 st0 root 1 = z := ⟨_, rfl⟩
  rw [hst]
  have HC := Aside0.mk (down_ok AP cP pages AL cL late w HP.out hcP HL.out hcL rn HRN.out (w.heap.size + 1) 9 st0 root 1 _ none 0 none 0 none 0 (by omega) (by omega) (by simp [nf, st0]) (by simp [nf, st0]) (by simp [nf, st0]) T.out)
  rw [hs] at HC ⊢
  clear hs hst
  go_enter Try.func99, Try.ntmps99
  go_wp2_with fail
  unfold cellsI at HC
  ((with_reducible refine (HC.out).mono ?_); rintro e w1 ⟨rfl, Ag, cg, Ap, cp, Ad, cd, T1, _⟩)
  go_wp2
  go_ret
  exact ⟨_, _, _, _, _, _, _, rfl, T1⟩
theorem enters102 : ∀ args w, (callFunc 102 args).run Try.prog w = .ok (.enter 102 args) w := enters_of Try.func102 (by kernel_rfl) rfl
set_option maxHeartbeats 4000000 in
theorem pred102 {w0 w : World} {dP dL vg vp : Value} {b1 b2 : Bool} {Ad : Option Addr} {cd B g : Nat} {pg dp : List Int} {pr : List S140} (hT : TInv (cellsI dP dL) 146 w0 w g vg vp (.slice Ad dp.length cd) b1 b2 pg pr dp) (hB : B < w.heap.size) (hcell : w.cell? ⟨B, 0, none⟩ = some (.pointer (some ⟨g, 0, none⟩))) (hne : dp ≠ []) :
  PredB 102 #[.pointer (some ⟨B, 0, none⟩)] (Value.int .i64) (fun n => n != dp.getD 0 0) w := fun W x hb => by
 have hl : 0 < dp.length := List.length_pos_iff.2 hne
 have T0 := Aside0.mk (hT.below hb)
 have hc : W.cell? ⟨B, 0, none⟩ = some (.pointer (some ⟨g, 0, none⟩)) := (hb.cell (p := ⟨B, 0, none⟩) hB).trans hcell
 have hBW : B < W.heap.size := Nat.lt_of_lt_of_le hB hb.size
 obtain ⟨ad, rfl⟩ := some_ad T0.out.rd hl
 have h0 : W.cell? (ad.add 0) = some (.int .i64 (dp.getD 0 0)) := by
  rw [seen_int T0.out.rd hl, List.getD_eq_getElem?_getD, List.getElem?_eq_getElem hl, Option.getD_some]
 have h1 : W.cell? ⟨g, 4, none⟩ = some (.slice (some ad) dp.length cd) := (blk_cell T0.out.bT 4).trans rfl
 have hg := blk_lt T0.out.bT
 have hlz : (0 : Int) < (dp.length : Int) := by omega
 generalize dp.getD 0 0 = d0 at h0 ⊢
 have h0' : W.cell? ad = some (.int .i64 d0) := by simpa [Addr.add] using h0
 show Calls Try.prog 102 #[.int .i64 x, .pointer (some ⟨B, 0, none⟩)] W _
 clear hT hcell hne
 go_enter Try.func102, Try.ntmps102
 go_wp2
 all_goals (go_ret; exact ⟨by first | rfl | simp_all, by first | exact hb | exact hb.drew⟩)
def okI (st : TSt) : Bool := !st.bad && st.order && ascPB st.pr && !(st.dp.any fun n => n != st.dp.getD 0 0)
set_option maxHeartbeats 16000000 in
theorem TreeOk_calls (AP : Option Addr) (cP : Nat) (pages : List ByteArray) (AL : Option Addr) (cL : Nat) (late : List S189) (w : World) (hP : Kd.C Kd.string w AP pages.length pages) (hcP : pages.length ≤ cP) (hL : Kd.C k189 w AL late.length late) (hcL : late.length ≤ cL) (rn : Int → S68 × Bool) (hrn : RnI pages late rn) (root : Int) :
  Calls Try.prog 39 #[.agg #[.slice AP pages.length cP, .slice AL late.length cL], .int .i64 root] w fun e w' => e = .returned (.bool (okI (tof rn root))) ∧ Below w.heap.size w w' := by
 have HP := Aside0.mk hP
 have HL := Aside0.mk hL
 have HRN := Aside0.mk hrn
 obtain ⟨st, hs⟩ : ∃ z, tof rn root = z := ⟨_, rfl⟩
 rw [hs]
 obtain ⟨pg, pr, dp, order, bad⟩ := st
 have HST := Aside0.mk hs
 clear hP hL hrn hs
 unfold okI
 simp only
 obtain ⟨asc, hasc⟩ : ∃ z, ascPB pr = z := ⟨_, rfl⟩
 have HASC := Aside0.mk hasc
 obtain ⟨any, hany⟩ : ∃ z, (dp.any fun n => n != dp.getD 0 0) = z := ⟨_, rfl⟩
 have HANY := Aside0.mk hany
 rw [hasc, hany]
 clear hasc hany
 cases bad with
 | true =>
  go_enter Try.func39, Try.ntmps39
  go_wp2_with fail
  ((with_reducible refine (treeOf_calls AP cP pages AL cL late _ (Kd.C_below HP.out (below_alloc (Below.refl _ _) _)) hcP (Kd.C_below HL.out (below_alloc (Below.refl _ _) _)) hcL rn HRN.out root).mono ?_); rintro e w1 ⟨g, Ag, cg, Ap, cp, Ad, cd, rfl, T1⟩)
  rw [HST.out] at T1
  simp only at T1
  have T2 := Aside0.mk (T1.alloc (.cells #[.pointer (some ⟨g, 0, none⟩)] 143))
  have HB2 := Aside0.mk (below_alloc (below_step (below_alloc (Below.refl w.heap.size w) (.cells #[.slice AP pages.length cP, .slice AL late.length cL] 41)) T1.bel) (.cells #[.pointer (some ⟨g, 0, none⟩)] 143))
  have BP := Aside0.mk (blk_new w1 (.cells #[.pointer (some ⟨g, 0, none⟩)] 143))
  clear T1
  go_upto_region 2 with (fail)
  have hgB := blk_lt BP.out
  generalize hw2 : w1.alloc (.cells #[.pointer (some ⟨g, 0, none⟩)] 143) = w2 at T2 HB2 BP hgB ⊢
  clear hw2
  generalize hB : w1.heap.size = B at BP hgB ⊢
  clear hB
  have hgl := blk_lt T2.out.bT
  have hcB : w2.cell? ⟨B, 0, none⟩ = some (.pointer (some ⟨g, 0, none⟩)) := (blk_cell BP.out 0).trans rfl
  have hd3 : w2.cell? ⟨g, 3, none⟩ = some (.slice Ap pr.length cp) := (blk_cell T2.out.bT 3).trans rfl
  have hd4 : w2.cell? ⟨g, 4, none⟩ = some (.slice Ad dp.length cd) := (blk_cell T2.out.bT 4).trans rfl
  have hd5 : w2.cell? ⟨g, 5, none⟩ = some (.bool order) := (blk_cell T2.out.bT 5).trans rfl
  have hd6 : w2.cell? ⟨g, 6, none⟩ = some (.bool true) := (blk_cell T2.out.bT 6).trans rfl
  go_wp2
  go_ret
  exact ⟨by first | rfl | simp, HB2.out⟩
 | false =>
  cases order with
  | false =>
   go_enter Try.func39, Try.ntmps39
   go_wp2_with fail
   ((with_reducible refine (treeOf_calls AP cP pages AL cL late _ (Kd.C_below HP.out (below_alloc (Below.refl _ _) _)) hcP (Kd.C_below HL.out (below_alloc (Below.refl _ _) _)) hcL rn HRN.out root).mono ?_); rintro e w1 ⟨g, Ag, cg, Ap, cp, Ad, cd, rfl, T1⟩)
   rw [HST.out] at T1
   simp only at T1
   have T2 := Aside0.mk (T1.alloc (.cells #[.pointer (some ⟨g, 0, none⟩)] 143))
   have HB2 := Aside0.mk (below_alloc (below_step (below_alloc (Below.refl w.heap.size w) (.cells #[.slice AP pages.length cP, .slice AL late.length cL] 41)) T1.bel) (.cells #[.pointer (some ⟨g, 0, none⟩)] 143))
   have BP := Aside0.mk (blk_new w1 (.cells #[.pointer (some ⟨g, 0, none⟩)] 143))
   clear T1
   go_upto_region 2 with (fail)
   have hgB := blk_lt BP.out
   generalize hw2 : w1.alloc (.cells #[.pointer (some ⟨g, 0, none⟩)] 143) = w2 at T2 HB2 BP hgB ⊢
   clear hw2
   generalize hB : w1.heap.size = B at BP hgB ⊢
   clear hB
   have hgl := blk_lt T2.out.bT
   have hcB : w2.cell? ⟨B, 0, none⟩ = some (.pointer (some ⟨g, 0, none⟩)) := (blk_cell BP.out 0).trans rfl
   have hd3 : w2.cell? ⟨g, 3, none⟩ = some (.slice Ap pr.length cp) := (blk_cell T2.out.bT 3).trans rfl
   have hd4 : w2.cell? ⟨g, 4, none⟩ = some (.slice Ad dp.length cd) := (blk_cell T2.out.bT 4).trans rfl
   have hd5 : w2.cell? ⟨g, 5, none⟩ = some (.bool false) := (blk_cell T2.out.bT 5).trans rfl
   have hd6 : w2.cell? ⟨g, 6, none⟩ = some (.bool false) := (blk_cell T2.out.bT 6).trans rfl
   go_wp2
   go_ret
   exact ⟨by first | rfl | simp, HB2.out⟩
  | true =>
   cases asc with
   | false =>
    go_enter Try.func39, Try.ntmps39
    go_wp2_with fail
    ((with_reducible refine (treeOf_calls AP cP pages AL cL late _ (Kd.C_below HP.out (below_alloc (Below.refl _ _) _)) hcP (Kd.C_below HL.out (below_alloc (Below.refl _ _) _)) hcL rn HRN.out root).mono ?_); rintro e w1 ⟨g, Ag, cg, Ap, cp, Ad, cd, rfl, T1⟩)
    rw [HST.out] at T1
    simp only at T1
    have T2 := Aside0.mk (T1.alloc (.cells #[.pointer (some ⟨g, 0, none⟩)] 143))
    have HB2 := Aside0.mk (below_alloc (below_step (below_alloc (Below.refl w.heap.size w) (.cells #[.slice AP pages.length cP, .slice AL late.length cL] 41)) T1.bel) (.cells #[.pointer (some ⟨g, 0, none⟩)] 143))
    have BP := Aside0.mk (blk_new w1 (.cells #[.pointer (some ⟨g, 0, none⟩)] 143))
    clear T1
    go_upto_region 2 with (fail)
    have hgB := blk_lt BP.out
    generalize hw2 : w1.alloc (.cells #[.pointer (some ⟨g, 0, none⟩)] 143) = w2 at T2 HB2 BP hgB ⊢
    clear hw2
    generalize hB : w1.heap.size = B at BP hgB ⊢
    clear hB
    have hgl := blk_lt T2.out.bT
    have hcB : w2.cell? ⟨B, 0, none⟩ = some (.pointer (some ⟨g, 0, none⟩)) := (blk_cell BP.out 0).trans rfl
    have hd3 : w2.cell? ⟨g, 3, none⟩ = some (.slice Ap pr.length cp) := (blk_cell T2.out.bT 3).trans rfl
    have hd4 : w2.cell? ⟨g, 4, none⟩ = some (.slice Ad dp.length cd) := (blk_cell T2.out.bT 4).trans rfl
    have hd5 : w2.cell? ⟨g, 5, none⟩ = some (.bool true) := (blk_cell T2.out.bT 5).trans rfl
    have hd6 : w2.cell? ⟨g, 6, none⟩ = some (.bool false) := (blk_cell T2.out.bT 6).trans rfl
    go_wp2_with fail
    ((with_reducible refine (impl_keysAscend.calls Ap cp pr false w2 (R_seen T2.out.rp).2 (R_seen T2.out.rp).1 (by rw [impl_keysAscend.f, HASC.out])).mono ?_); rintro e w3 ⟨rfl, hb3⟩)
    have HB3 := Aside0.mk (below_step HB2.out hb3)
    have T3 := Aside0.mk (T2.out.below hb3)
    have BP3 := Aside0.mk (blk_below BP.out hb3)
    have hgB3 := blk_lt BP3.out
    have hgl3 := blk_lt T3.out.bT
    have hcB3 : w3.cell? ⟨B, 0, none⟩ = some (.pointer (some ⟨g, 0, none⟩)) := (blk_cell BP3.out 0).trans rfl
    have hd43 : w3.cell? ⟨g, 4, none⟩ = some (.slice Ad dp.length cd) := (blk_cell T3.out.bT 4).trans rfl
    clear hb3 T2 HB2 BP hcB hd3 hd4 hd5 hd6 hgB hgl
    go_wp2
    go_ret
    exact ⟨by first | rfl | simp, HB3.out⟩
   | true =>
    go_enter Try.func39, Try.ntmps39
    go_wp2_with fail
    ((with_reducible refine (treeOf_calls AP cP pages AL cL late _ (Kd.C_below HP.out (below_alloc (Below.refl _ _) _)) hcP (Kd.C_below HL.out (below_alloc (Below.refl _ _) _)) hcL rn HRN.out root).mono ?_); rintro e w1 ⟨g, Ag, cg, Ap, cp, Ad, cd, rfl, T1⟩)
    rw [HST.out] at T1
    simp only at T1
    have T2 := Aside0.mk (T1.alloc (.cells #[.pointer (some ⟨g, 0, none⟩)] 143))
    have HB2 := Aside0.mk (below_alloc (below_step (below_alloc (Below.refl w.heap.size w) (.cells #[.slice AP pages.length cP, .slice AL late.length cL] 41)) T1.bel) (.cells #[.pointer (some ⟨g, 0, none⟩)] 143))
    have BP := Aside0.mk (blk_new w1 (.cells #[.pointer (some ⟨g, 0, none⟩)] 143))
    clear T1
    go_upto_region 2 with (fail)
    have hgB := blk_lt BP.out
    generalize hw2 : w1.alloc (.cells #[.pointer (some ⟨g, 0, none⟩)] 143) = w2 at T2 HB2 BP hgB ⊢
    clear hw2
    generalize hB : w1.heap.size = B at BP hgB ⊢
    clear hB
    have hgl := blk_lt T2.out.bT
    have hcB : w2.cell? ⟨B, 0, none⟩ = some (.pointer (some ⟨g, 0, none⟩)) := (blk_cell BP.out 0).trans rfl
    have hd3 : w2.cell? ⟨g, 3, none⟩ = some (.slice Ap pr.length cp) := (blk_cell T2.out.bT 3).trans rfl
    have hd4 : w2.cell? ⟨g, 4, none⟩ = some (.slice Ad dp.length cd) := (blk_cell T2.out.bT 4).trans rfl
    have hd5 : w2.cell? ⟨g, 5, none⟩ = some (.bool true) := (blk_cell T2.out.bT 5).trans rfl
    have hd6 : w2.cell? ⟨g, 6, none⟩ = some (.bool false) := (blk_cell T2.out.bT 6).trans rfl
    go_wp2_with fail
    ((with_reducible refine (impl_keysAscend.calls Ap cp pr true w2 (R_seen T2.out.rp).2 (R_seen T2.out.rp).1 (by rw [impl_keysAscend.f, HASC.out])).mono ?_); rintro e w3 ⟨rfl, hb3⟩)
    have HB3 := Aside0.mk (below_step HB2.out hb3)
    have T3 := Aside0.mk (T2.out.below hb3)
    have BP3 := Aside0.mk (blk_below BP.out hb3)
    have hgB3 := blk_lt BP3.out
    have hgl3 := blk_lt T3.out.bT
    have hcB3 : w3.cell? ⟨B, 0, none⟩ = some (.pointer (some ⟨g, 0, none⟩)) := (blk_cell BP3.out 0).trans rfl
    have hd43 : w3.cell? ⟨g, 4, none⟩ = some (.slice Ad dp.length cd) := (blk_cell T3.out.bT 4).trans rfl
    clear hb3 T2 HB2 BP hcB hd3 hd4 hd5 hd6 hgB hgl
    go_wp2_with fail
    ((with_reducible refine (ContainsFunc_int 102 #[.pointer (some ⟨B, 0, none⟩)] (fun n => n != dp.getD 0 0) enters102 Ad cd dp w3 (R_seen T3.out.rd).2 (fun hne => pred102 T3.out hgB3 hcB3 hne)).mono ?_); rintro e w4 ⟨rfl, hb4⟩)
    have HB4 := Aside0.mk (below_step HB3.out hb4)
    rw [HANY.out]
    go_wp2
    go_ret
    exact ⟨by first | rfl | simp, HB4.out⟩
end Go.Proofs.Ytapholbdjccapaa.PFnExactTreeOk
namespace Go.Proofs.Ytapholbdjccapaa.PFnExactTreeOk
open Go.RowKit Go.Proofs.YtapholbdjccapaaW.PrintWords Go.Proofs.YtapholbdjccapaaW.PrintLast Go.Proofs.YtapholbdjccapaaW.PrintMore
attribute [local go_sem] max2_int min2_int max_two min_two max_three min_three max_four min_four   -- for this text's walks alone
set_option linter.unusedVariables false
set_option linter.unusedSimpArgs false
def spec_l06In.l0 : Nat → List Int → Int → Int → Option (Bool)
 | 0, _, _, _ => none
 | k + 1, x0, x1, x5 => if x5 < (x0.length : Int) then (if 0 ≤ x5 then (if (rd x0 x5) = x1 then (some true) else (spec_l06In.l0 k x0 x1 (wrap64 (x5 + 1)))) else (none)) else (some false)
def spec_l06In.f (k : Nat) (l0 : List Int) (a1 : Int) : Option (Bool) := spec_l06In.l0 k l0 a1 0
set_option maxHeartbeats 8000000 in
set_option maxRecDepth 100000 in
theorem spec_l06In.calls (k : Nat) (A0 : Option Addr) (c0 : Nat) (l0 : List Int) (a1 : Int) (r : Bool) (w : World) (hr0 : Kd.C (Kd.int .i64) w A0 l0.length l0) (hc0 : l0.length ≤ c0) (h : spec_l06In.f k l0 a1 = some r) :
  Calls Try.prog 77 #[.slice A0 l0.length c0, .int .i64 a1] w fun e w' => e = .returned (.bool r) ∧ Drawn0 w w' := by
 have HR0 := Aside0.mk hr0
 have HC0 := Aside0.mk hc0
 clear hr0 hc0
 have H : (spec_l06In.l0 k l0 a1 0) = some r := h
 clear h
 have H' := Aside0.mk H
 clear H
 go_enter Try.func77, Try.ntmps77
 go_wp2
 go_loopg [5] k (fun kq v5 w' => ∃ (x5_1 : Int), v5 = .int .i64 x5_1 ∧ Aside0 (spec_l06In.l0 kq l0 a1 x5_1 = some r) ∧ Aside0 (kq ≤ k) ∧ Drawn0 w w')
 case atStart => exact ⟨(0), (by first | rfl | (simp; done) | (simp [*]; done)), H', ⟨Nat.le_refl _⟩, by repeat (first | exact Drawn0.refl _ | apply Drawn0.step)⟩
 case round =>
  clear H'
  try clear p2
  obtain ⟨x5_1, rfl, HA, HK1, ⟨m1, rfl⟩⟩ := hrel
  cases gk with
  | zero => exact absurd HA.out (by simp [spec_l06In.l0])
  | succ k1 =>
   have H := HA.out
   clear HA
   simp only [spec_l06In.l0] at H
   by_cases c3 : x5_1 < (l0.length : Int)
   ·rw [if_pos c3] at H
    have c3b0 : decide (x5_1 < (l0.length : Int)) = true := decide_eq_true c3
    clear c3
    by_cases c4 : 0 ≤ x5_1
    ·rw [if_pos c4] at H
     have c4b0 : decide (0 ≤ x5_1) = true := decide_eq_true c4
     clear c4
     by_cases c5 : (rd l0 x5_1) = a1
     ·rw [if_pos c5] at H
      have c5b0 : ((rd l0 x5_1) == a1) = true := beq_iff_eq.mpr c5
      have c5b1 : ((rd l0 x5_1) != a1) = false := bne_eq_false_iff_eq.mpr c5
      clear c5
      obtain rfl := Option.some.inj H
      have p160 : 0 ≤ (x5_1 : Int) := of_decide_eq_true (by first | (with_reducible assumption) | assumption)
      have q160 : x5_1 < (l0.length : Int) := of_decide_eq_true (by first | (with_reducible assumption) | assumption)
      obtain ⟨ad160, e160, hx160_0⟩ := Kd.at_int HR0.out x5_1 p160 q160
      cases e160
      replace p160 := eq_true p160
      replace q160 := eq_true q160
      go_wp2
      go_ret
      exact ⟨by first | rfl | (simp; done) | (simp [*]; done), by repeat (first | exact Drawn0.refl _ | apply Drawn0.step)⟩
     ·rw [if_neg c5] at H
      have c5b0 : ((rd l0 x5_1) == a1) = false := beq_eq_false_iff_ne.mpr c5
      have c5b1 : ((rd l0 x5_1) != a1) = true := bne_iff_ne.mpr c5
      have H' := Aside0.mk H
      clear H
      have p160 : 0 ≤ (x5_1 : Int) := of_decide_eq_true (by first | (with_reducible assumption) | assumption)
      have q160 : x5_1 < (l0.length : Int) := of_decide_eq_true (by first | (with_reducible assumption) | assumption)
      obtain ⟨ad160, e160, hx160_0⟩ := Kd.at_int HR0.out x5_1 p160 q160
      cases e160
      replace p160 := eq_true p160
      replace q160 := eq_true q160
      go_wp2
      go_roundg k1
      case measure => have := HK1.out; omega
      case rel => exact ⟨(wrap64 (x5_1 + 1)), (by first | rfl | (simp; done) | (simp [*]; done)), H', ⟨by have := HK1.out; omega⟩, by repeat (first | exact Drawn0.refl _ | apply Drawn0.step)⟩
    ·rw [if_neg c4] at H
     exact absurd H (by simp)
   ·rw [if_neg c3] at H
    have c3b0 : decide (x5_1 < (l0.length : Int)) = false := decide_eq_false c3
    clear c3
    obtain rfl := Option.some.inj H
    go_wp2
    go_ret
    exact ⟨by first | rfl | (simp; done) | (simp [*]; done), by repeat (first | exact Drawn0.refl _ | apply Drawn0.step)⟩
def spec_ReadPage.l0 : Nat → Int → Int → List ByteArray → List (S189) → Option (ByteArray)
 | 0, _, _, _, _ => none
 | k + 1, x1, x5, x162000, x162001 => if x5 ≥ 0 then (if 0 ≤ x5 then (if x5 < (x162001.length : Int) then (if ((rd_T189 x162001 x5).f0) = x1 then (some ((rd_T189 x162001 x5).f1)) else (spec_ReadPage.l0 k x1 (wrap64 (x5 - 1)) x162000 x162001)) else (none)) else (none)) else (if 0 ≤ x1 then (if x1 < (x162000.length : Int) then (some (rdOf ByteArray.empty x162000 x1)) else (none)) else (none))
def spec_ReadPage.f (k : Nat) (l0_0 : List ByteArray) (l0_1 : List (S189)) (a1 : Int) : Option (ByteArray) := (spec_l01In.f a1 0 (wrap64 ((l0_0.length : Int) - 1))).bind fun t162 => (if t162 = true then (spec_ReadPage.l0 k a1 (wrap64 ((l0_1.length : Int) - 1)) l0_0 l0_1) else (some (⟨#[]⟩ : ByteArray)))
set_option maxHeartbeats 8000000 in
set_option maxRecDepth 100000 in
theorem spec_ReadPage.calls (k : Nat) (A0_0 : Option Addr) (c0_0 : Nat) (l0_0 : List ByteArray) (A0_1 : Option Addr) (c0_1 : Nat) (l0_1 : List (S189)) (a1 : Int) (r : ByteArray) (w : World) (hr0_0 : Kd.C Kd.string w A0_0 l0_0.length l0_0) (hc0_0 : l0_0.length ≤ c0_0) (hr0_1 : Kd.C k189 w A0_1 l0_1.length l0_1) (hc0_1 : l0_1.length ≤ c0_1) (h : spec_ReadPage.f k l0_0 l0_1 a1 = some r) :
  Calls Try.prog 159 #[.agg #[.slice A0_0 l0_0.length c0_0, .slice A0_1 l0_1.length c0_1], .int .i64 a1] w fun e w' => e = .returned (.string r) ∧ Below w.heap.size w w' := by
 have hu41 := Try.underlying41
 have HR0_0 := Aside0.mk hr0_0
 have HC0_0 := Aside0.mk hc0_0
 clear hr0_0 hc0_0
 have HR0_1 := Aside0.mk hr0_1
 have HC0_1 := Aside0.mk hc0_1
 clear hr0_1 hc0_1
 have HB := Aside0.mk (Below.refl w.heap.size w)
 have H : ((spec_l01In.f a1 0 (wrap64 ((l0_0.length : Int) - 1))).bind fun t162 => (if t162 = true then (spec_ReadPage.l0 k a1 (wrap64 ((l0_1.length : Int) - 1)) l0_0 l0_1) else (some (⟨#[]⟩ : ByteArray)))) = some r := h
 clear h
 replace H := Option.bind_eq_some_iff.mp H
 obtain ⟨t162, A30, H⟩ := H
 replace H : (if t162 = true then (spec_ReadPage.l0 k a1 (wrap64 ((l0_1.length : Int) - 1)) l0_0 l0_1) else (some (⟨#[]⟩ : ByteArray))) = some r := H
 have A3 := Aside0.mk A30
 clear A30
 by_cases c4 : t162 = true
 ·subst c4
  have H1 : (spec_ReadPage.l0 k a1 (wrap64 ((l0_1.length : Int) - 1)) l0_0 l0_1) = some r := by rw [if_pos rfl] at H; exact H
  clear H
  have H := H1
  clear H1
  have H' := Aside0.mk H
  clear H
  go_enter Try.func159, Try.ntmps159
  go_wp2_with (first | ((with_reducible refine gate_dst (N := 2) rfl ?_); refine box_event ?hg (N := 2) ?hd (cs := #[.slice A0_0 l0_0.length c0_0, .slice A0_1 l0_1.length c0_1]) (t := 41) ?hr ?_; (case hd => rfl); (case hg => rfl); (case hr => first | (go_simp; done) | (go_simp; rfl)); intro gb161 hg w5 hbox hb; have n0_ := Aside0.mk (below_step (by repeat (first | (with_reducible first | exact HB.out | apply below_alloc | apply pw_below_drewN | apply below_drew1) | exact HB.out)) hb); have n1_ := Aside0.mk (hbox); have n2_ := Aside0.mk ((by rw [hg]; exact (below_size (by repeat (first | (with_reducible first | exact HB.out | apply below_alloc | apply pw_below_drewN | apply below_drew1) | exact HB.out))) : w.heap.size ≤ gb161)); have n3_ := Aside0.mk ((by rw [hg]; exact (below_size (by repeat (first | (with_reducible first | exact HB.out | apply below_alloc | apply pw_below_drewN | apply below_drew1) | exact HB.out))) : w.heap.size ≤ gb161)); clear HB; have HB := n0_; have BK161 := n1_; have GW161 := n2_; have GE161 := n3_; clear n0_ n1_ n2_ n3_; clear hb hbox hg; have hcz6_0 : w5.cell? ⟨gb161, 0, none⟩ = some (.slice A0_0 l0_0.length c0_0) := (blk_cell BK161.out 0).trans rfl; have hcz6_1 : w5.cell? ⟨gb161, 1, none⟩ = some (.slice A0_1 l0_1.length c0_1) := (blk_cell BK161.out 1).trans rfl; have hfz6_0 := blk_frozen BK161.out 0; have hfz6_1 := blk_frozen BK161.out 1) | ((with_reducible refine gate_callee (f := 76) rfl ?_); refine goesL_ (some 11) rfl rfl Try.func76 (by kernel_rfl) rfl #[.int .i64 a1, .int .i64 0, .int .i64 (wrap64 ((l0_0.length : Int) - 1))] rfl (by (try simp only [List.map_toArray, List.map_cons, List.map_nil]); first | done | rfl | (simp only [List.length_drop, List.length_take]; rfl)) ?_; (with_reducible refine (spec_l01In.calls a1 0 (wrap64 ((l0_0.length : Int) - 1)) true _ A3.out).mono ?_); rintro e w' ⟨rfl, ⟨nd, rfl⟩⟩; refine ⟨_, rfl, ?_⟩))
  go_loopg [5] k (fun kq v5 w' => ∃ (x5_1 : Int), v5 = .int .i64 x5_1 ∧ Aside0 (spec_ReadPage.l0 kq a1 x5_1 l0_0 l0_1 = some r) ∧ Aside0 (kq ≤ k) ∧ Aside0 (w'.heap[gb161]? = some (.cells #[(.slice A0_0 l0_0.length c0_0), (.slice A0_1 l0_1.length c0_1)] 41 (0, 0))) ∧ Aside0 (Below w.heap.size w w'))
  case atStart => exact ⟨(wrap64 ((l0_1.length : Int) - 1)), (by first | rfl | (simp; done) | (simp [*]; done)), H', ⟨Nat.le_refl _⟩, ⟨by (with_reducible repeat (first | refine blk_drewN ?_ _ | refine blk_drew ?_ | refine blk_alloc ?_ _)); exact BK161.out⟩, ⟨by repeat (first | (with_reducible first | exact HB.out | apply below_alloc | apply pw_below_drewN | apply below_drew1 | refine below_set ?_ GE161.out) | exact HB.out)⟩⟩
  case round =>
   clear H'
   try clear c1
   try clear p2
   try clear c4
   try clear p6
   try clear hcz6_0
   try clear hcz6_1
   try clear hfz6_0
   try clear hfz6_1
   obtain ⟨x5_1, rfl, HA, HK1, BK161, HB⟩ := hrel
   cases gk with
   | zero => exact absurd HA.out (by simp [spec_ReadPage.l0])
   | succ k1 =>
    have H := HA.out
    clear HA
    simp only [spec_ReadPage.l0] at H
    by_cases c7 : x5_1 ≥ 0
    ·rw [if_pos c7] at H
     have c7b0 : decide (0 ≤ x5_1) = true := decide_eq_true c7
     clear c7
     by_cases c8 : 0 ≤ x5_1
     ·rw [if_pos c8] at H
      have c8b0 : decide (0 ≤ x5_1) = true := decide_eq_true c8
      clear c8
      by_cases c9 : x5_1 < (l0_1.length : Int)
      ·rw [if_pos c9] at H
       have c9b0 : decide (x5_1 < (l0_1.length : Int)) = true := decide_eq_true c9
       clear c9
       by_cases c10 : ((rd_T189 l0_1 x5_1).f0) = a1
       ·rw [if_pos c10] at H
        have c10b0 : (((rd_T189 l0_1 x5_1).f0) == a1) = true := beq_iff_eq.mpr c10
        have c10b1 : (((rd_T189 l0_1 x5_1).f0) != a1) = false := bne_eq_false_iff_eq.mpr c10
        clear c10
        obtain rfl := Option.some.inj H
        have hcz11_0 : wr.cell? ⟨gb161, 0, none⟩ = some (.slice A0_0 l0_0.length c0_0) := (blk_cell BK161.out 0).trans rfl
        have hcz11_1 : wr.cell? ⟨gb161, 1, none⟩ = some (.slice A0_1 l0_1.length c0_1) := (blk_cell BK161.out 1).trans rfl
        have hfz11_0 := blk_frozen BK161.out 0
        have hfz11_1 := blk_frozen BK161.out 1
        have p163 : 0 ≤ (x5_1 : Int) := of_decide_eq_true (by first | (with_reducible assumption) | assumption)
        have q163 : x5_1 < (l0_1.length : Int) := of_decide_eq_true (by first | (with_reducible assumption) | assumption)
        obtain ⟨ad163, e163, hx163_0, hx163_1⟩ := at_T189 HR0_1.out x5_1 p163 q163
        cases e163
        replace hx163_0 := (HB.out.cell (World.block_lt_of_cell? w _ hx163_0)).trans hx163_0
        replace hx163_1 := (HB.out.cell (World.block_lt_of_cell? w _ hx163_1)).trans hx163_1
        replace p163 := eq_true p163
        replace q163 := eq_true q163
        have p164 : 0 ≤ (x5_1 : Int) := of_decide_eq_true (by first | (with_reducible assumption) | assumption)
        have q164 : x5_1 < (l0_1.length : Int) := of_decide_eq_true (by first | (with_reducible assumption) | assumption)
        obtain ⟨ad164, e164, hx164_0, hx164_1⟩ := at_T189 HR0_1.out x5_1 p164 q164
        obtain rfl : ad163 = ad164 := (by injection e164)
        replace hx164_0 := (HB.out.cell (World.block_lt_of_cell? w _ hx164_0)).trans hx164_0
        replace hx164_1 := (HB.out.cell (World.block_lt_of_cell? w _ hx164_1)).trans hx164_1
        replace p164 := eq_true p164
        replace q164 := eq_true q164
        go_wp2
        go_ret
        exact ⟨by first | rfl | (simp [errW_none, errW_some] <;> rfl) | (simp [*, errW_none, errW_some] <;> rfl), by repeat (first | (with_reducible first | exact HB.out | apply below_alloc | apply pw_below_drewN | apply below_drew1 | refine below_set ?_ GE161.out) | exact HB.out)⟩
       ·rw [if_neg c10] at H
        have c10b0 : (((rd_T189 l0_1 x5_1).f0) == a1) = false := beq_eq_false_iff_ne.mpr c10
        have c10b1 : (((rd_T189 l0_1 x5_1).f0) != a1) = true := bne_iff_ne.mpr c10
        have H' := Aside0.mk H
        clear H
        have hcz12_0 : wr.cell? ⟨gb161, 0, none⟩ = some (.slice A0_0 l0_0.length c0_0) := (blk_cell BK161.out 0).trans rfl
        have hcz12_1 : wr.cell? ⟨gb161, 1, none⟩ = some (.slice A0_1 l0_1.length c0_1) := (blk_cell BK161.out 1).trans rfl
        have hfz12_0 := blk_frozen BK161.out 0
        have hfz12_1 := blk_frozen BK161.out 1
        have p163 : 0 ≤ (x5_1 : Int) := of_decide_eq_true (by first | (with_reducible assumption) | assumption)
        have q163 : x5_1 < (l0_1.length : Int) := of_decide_eq_true (by first | (with_reducible assumption) | assumption)
        obtain ⟨ad163, e163, hx163_0, hx163_1⟩ := at_T189 HR0_1.out x5_1 p163 q163
        cases e163
        replace hx163_0 := (HB.out.cell (World.block_lt_of_cell? w _ hx163_0)).trans hx163_0
        replace hx163_1 := (HB.out.cell (World.block_lt_of_cell? w _ hx163_1)).trans hx163_1
        replace p163 := eq_true p163
        replace q163 := eq_true q163
        go_wp2
        go_roundg k1
        case measure => have := HK1.out; omega
        case rel => exact ⟨(wrap64 (x5_1 - 1)), (by first | rfl | (simp; done) | (simp [*]; done)), H', ⟨by have := HK1.out; omega⟩, ⟨by (with_reducible repeat (first | refine blk_drewN ?_ _ | refine blk_drew ?_ | refine blk_alloc ?_ _)); exact BK161.out⟩, ⟨by repeat (first | (with_reducible first | exact HB.out | apply below_alloc | apply pw_below_drewN | apply below_drew1 | refine below_set ?_ GE161.out) | exact HB.out)⟩⟩
      ·rw [if_neg c9] at H
       exact absurd H (by simp)
     ·rw [if_neg c8] at H
      exact absurd H (by simp)
    ·rw [if_neg c7] at H
     have c7b0 : decide (0 ≤ x5_1) = false := decide_eq_false c7
     clear c7
     by_cases c13 : 0 ≤ a1
     ·rw [if_pos c13] at H
      have c13b0 : decide (0 ≤ a1) = true := decide_eq_true c13
      clear c13
      by_cases c14 : a1 < (l0_0.length : Int)
      ·rw [if_pos c14] at H
       have c14b0 : decide (a1 < (l0_0.length : Int)) = true := decide_eq_true c14
       clear c14
       obtain rfl := Option.some.inj H
       have hcz15_0 : wr.cell? ⟨gb161, 0, none⟩ = some (.slice A0_0 l0_0.length c0_0) := (blk_cell BK161.out 0).trans rfl
       have hcz15_1 : wr.cell? ⟨gb161, 1, none⟩ = some (.slice A0_1 l0_1.length c0_1) := (blk_cell BK161.out 1).trans rfl
       have hfz15_0 := blk_frozen BK161.out 0
       have hfz15_1 := blk_frozen BK161.out 1
       have p165 : 0 ≤ (a1 : Int) := of_decide_eq_true (by first | (with_reducible assumption) | assumption)
       have q165 : a1 < (l0_0.length : Int) := of_decide_eq_true (by first | (with_reducible assumption) | assumption)
       obtain ⟨ad165, e165, hx165_0⟩ := Kd.at_string HR0_0.out a1 p165 q165
       cases e165
       replace hx165_0 := (HB.out.cell (World.block_lt_of_cell? w _ hx165_0)).trans hx165_0
       replace p165 := eq_true p165
       replace q165 := eq_true q165
       go_wp2
       go_ret
       exact ⟨by first | rfl | (simp [errW_none, errW_some] <;> rfl) | (simp [*, errW_none, errW_some] <;> rfl), by repeat (first | (with_reducible first | exact HB.out | apply below_alloc | apply pw_below_drewN | apply below_drew1 | refine below_set ?_ GE161.out) | exact HB.out)⟩
      ·rw [if_neg c14] at H
       exact absurd H (by simp)
     ·rw [if_neg c13] at H
      exact absurd H (by simp)
 ·replace c4 := Bool.eq_false_iff.mpr c4
  subst c4
  have H1 : (some (⟨#[]⟩ : ByteArray)) = some r := by rw [if_neg (show ¬ (false = true) by decide)] at H; exact H
  clear H
  have H := H1
  clear H1
  obtain rfl := Option.some.inj H
  go_enter Try.func159, Try.ntmps159
  go_wp2_with (first | ((with_reducible refine gate_dst (N := 2) rfl ?_); refine box_event ?hg (N := 2) ?hd (cs := #[.slice A0_0 l0_0.length c0_0, .slice A0_1 l0_1.length c0_1]) (t := 41) ?hr ?_; (case hd => rfl); (case hg => rfl); (case hr => first | (go_simp; done) | (go_simp; rfl)); intro gb161 hg w16 hbox hb; have n0_ := Aside0.mk (below_step (by repeat (first | (with_reducible first | exact HB.out | apply below_alloc | apply pw_below_drewN | apply below_drew1) | exact HB.out)) hb); have n1_ := Aside0.mk (hbox); have n2_ := Aside0.mk ((by rw [hg]; exact (below_size (by repeat (first | (with_reducible first | exact HB.out | apply below_alloc | apply pw_below_drewN | apply below_drew1) | exact HB.out))) : w.heap.size ≤ gb161)); have n3_ := Aside0.mk ((by rw [hg]; exact (below_size (by repeat (first | (with_reducible first | exact HB.out | apply below_alloc | apply pw_below_drewN | apply below_drew1) | exact HB.out))) : w.heap.size ≤ gb161)); clear HB; have HB := n0_; have BK161 := n1_; have GW161 := n2_; have GE161 := n3_; clear n0_ n1_ n2_ n3_; clear hb hbox hg; have hcz17_0 : w16.cell? ⟨gb161, 0, none⟩ = some (.slice A0_0 l0_0.length c0_0) := (blk_cell BK161.out 0).trans rfl; have hcz17_1 : w16.cell? ⟨gb161, 1, none⟩ = some (.slice A0_1 l0_1.length c0_1) := (blk_cell BK161.out 1).trans rfl; have hfz17_0 := blk_frozen BK161.out 0; have hfz17_1 := blk_frozen BK161.out 1) | ((with_reducible refine gate_callee (f := 76) rfl ?_); refine goesL_ (some 11) rfl rfl Try.func76 (by kernel_rfl) rfl #[.int .i64 a1, .int .i64 0, .int .i64 (wrap64 ((l0_0.length : Int) - 1))] rfl (by (try simp only [List.map_toArray, List.map_cons, List.map_nil]); first | done | rfl | (simp only [List.length_drop, List.length_take]; rfl)) ?_; (with_reducible refine (spec_l01In.calls a1 0 (wrap64 ((l0_0.length : Int) - 1)) false _ A3.out).mono ?_); rintro e w' ⟨rfl, ⟨nd, rfl⟩⟩; refine ⟨_, rfl, ?_⟩))
  go_ret
  exact ⟨by first | rfl | (simp [errW_none, errW_some] <;> rfl) | (simp [*, errW_none, errW_some] <;> rfl), by repeat (first | (with_reducible first | exact HB.out | apply below_alloc | apply pw_below_drewN | apply below_drew1 | refine below_set ?_ GE161.out) | exact HB.out)⟩
end Go.Proofs.Ytapholbdjccapaa.PFnExactTreeOk
namespace Go.Proofs.Ytapholbdjccapaa.PFnExactTreeOk
open Go.RowKit Go.Proofs.YtapholbdjccapaaW.PrintWords Go.Proofs.YtapholbdjccapaaW.PrintLast Go.Proofs.YtapholbdjccapaaW.PrintMore
set_option linter.unusedVariables false
set_option linter.unusedSimpArgs false
theorem in_go (l : List Int) (x : Int) (hbig : l.length ≤ 9223372036854775807) : ∀ (n i : Nat), i ≤ l.length → l.length - i ≤ n → (∀ j (hj : j < l.length), j < i → l[j] ≠ x) → spec_l06In.l0 (n + 1) l x (i : Int) = some (l.contains x) := by
 have hmiss : ∀ i : Nat, i = l.length → (∀ j (hj : j < l.length), j < i → l[j] ≠ x) → l.contains x = false := by
  intro i hi hb
  cases h : l.contains x
  ·rfl
  ·obtain ⟨j, hj, e⟩ := List.getElem_of_mem (List.contains_iff_mem.1 h)
   exact absurd e (hb j hj (by omega))
 intro n
 induction n with
 | zero =>
  intro i h1 h2 hb
  simp only [spec_l06In.l0]
  rw [if_neg (by omega), hmiss i (by omega) hb]
 | succ n ih =>
  intro i h1 h2 hb
  rw [spec_l06In.l0]
  by_cases hi : i < l.length
  ·rw [if_pos (by omega), if_pos (by omega), rd_nat _ _ hi]
   by_cases hx : l[i] = x
   ·rw [if_pos hx]
    have : l.contains x = true := List.contains_iff_mem.2 (by rw [← hx]; exact List.getElem_mem hi)
    rw [this]
   ·rw [if_neg hx, show wrap64 ((i : Int) + 1) = ((i + 1 : Nat) : Int) by unfold wrap64; omega]
    exact ih (i + 1) (by omega) (by omega) (fun j hj hji => by
     by_cases e : j = i
     ·subst e; exact hx
     ·exact hb j hj (by omega))
  ·rw [if_neg (by omega), hmiss i (by omega) hb]
theorem in_ev (l : List Int) (x : Int) (b : Bool) (h : l.contains x = b) (hbig : l.length ≤ 9223372036854775807) : ∃ k, spec_l06In.f k l x = some b :=
 ⟨l.length + 1, by rw [← h]; exact in_go l x hbig l.length 0 (Nat.zero_le _) (by omega) (fun j hj h => absurd h (Nat.not_lt_zero _))⟩
def outB (low high : ByteArray) (has : Bool) (k : ByteArray) : Bool := Op.bytesLess k.toList low.toList || (has && !(Op.bytesLess k.toList high.toList))
def leastB (low k : ByteArray) : ByteArray := if Op.bytesLess low.toList k.toList = true then k else low
def moreB (keys : List ByteArray) (high : ByteArray) (has : Bool) (i : Nat) : Bool := decide (i + 1 < keys.length) && (!has || Op.bytesLess (keys.getD (i + 1) ByteArray.empty).toList high.toList)
def nextB (keys : List ByteArray) (high : ByteArray) (has : Bool) (i : Nat) : ByteArray := if moreB keys high has i = true then keys.getD (i + 1) ByteArray.empty else high
def swKids (rec_ : TSt → Int → ByteArray → ByteArray → Bool → TSt) (keys : List ByteArray) (kids : List Int) (low high : ByteArray) (has : Bool) : Nat → Nat → TSt → TSt
 | _, 0, st => st
 | i, n + 1, st => swKids rec_ keys kids low high has (i + 1) n (rec_ st (kids.getD i 0) (leastB low (keys.getD i ByteArray.empty)) (nextB keys high has i) (has || moreB keys high has i))
def sw (rn : Int → S68 × Bool) : Nat → TSt → Int → Int → ByteArray → ByteArray → Bool → TSt
 | 0, st, _, _, _, _, _ => ⟨st.pg, st.pr, st.dp, st.order, true⟩
 | f + 1, st, page, deep, low, high, has =>
  if (rn page).2 = false ∨ deep ≥ 8 ∨ st.pg.contains page = true ∨ st.bad = true then ⟨st.pg, st.pr, st.dp, st.order, true⟩
  else if (rn page).1.f0 = true then ⟨st.pg ++ [page], st.pr ++ pairsTo (rn page).1.f1 (rn page).1.f2 (rn page).1.f1.length, st.dp ++ [deep], st.order || (rn page).1.f1.any (outB low high has), st.bad⟩
  else swKids (fun s k lo hi ha => sw rn f s k (deep + 1) lo hi ha) (rn page).1.f1 (rn page).1.f3 low high has 0 (rn page).1.f1.length ⟨st.pg ++ [page], st.pr, st.dp, st.order, st.bad⟩
def RnS (pages : List ByteArray) (late : List S189) (rn : Int → S68 × Bool) : Prop :=
 ∀ page : Int, ∃ s, (∃ k, spec_ReadPage.f k pages late page = some s) ∧ (∀ w, Calls Try.prog 35 #[.string s] w (NodePost w (rn page).1 (rn page).2)) ∧ (((rn page).2 = true ∧ nodeOkB (rn page).1.f0 (rn page).1.f1 (rn page).1.f2 (rn page).1.f3 = true) ∨ ((rn page).2 = false ∧ (rn page).1 = z68))
def cellsS (vg vp vd : Value) (b1 b2 : Bool) : Array Value := #[vp, vg, vd, .bool b2, .bool b1]
theorem layS : Lay cellsS 1 0 2 4 3 := ⟨fun _ _ _ _ _ _ => rfl, fun _ _ _ _ _ _ => rfl, fun _ _ _ _ _ _ => rfl, fun _ _ _ _ _ _ => rfl, fun _ _ _ _ _ _ => rfl⟩
set_option maxHeartbeats 16000000 in
set_option maxRecDepth 100000 in
theorem walk_bad (AP : Option Addr) (cP : Nat) (pages : List ByteArray) (AL : Option Addr) (cL : Nat) (late : List S189) (w0 : World) (hP : Kd.C Kd.string w0 AP pages.length pages) (hcP : pages.length ≤ cP) (hL : Kd.C k189 w0 AL late.length late) (hcL : late.length ≤ cL) (rn : Int → S68 × Bool) (hrn : RnS pages late rn) (g : Nat) (st : TSt) (page deep : Int) (low high : ByteArray) (has : Bool) (w : World) (Ag : Option Addr) (cg : Nat) (Ap : Option Addr) (cp : Nat) (Ad : Option Addr) (cd : Nat) (hT : TInv cellsS 138 w0 w g (.slice Ag st.pg.length cg) (.slice Ap st.pr.length cp) (.slice Ad st.dp.length cd) st.order st.bad st.pg st.pr st.dp) (hbad : (rn page).2 = false ∨ deep ≥ 8 ∨ st.pg.contains page = true ∨ st.bad = true) :
  Calls Try.prog 140 #[.agg #[.slice AP pages.length cP, .slice AL late.length cL], .int .i64 page, .int .i64 deep, .string low, .string high, .bool has, .pointer (some ⟨g, 0, none⟩)] w (DownPost cellsS 138 w0 w g (.slice Ag st.pg.length cg) (.slice Ap st.pr.length cp) (.slice Ad st.dp.length cd) ⟨st.pg, st.pr, st.dp, st.order, true⟩) := by
 obtain ⟨s, ⟨k, hs⟩, hnode, hcase⟩ := hrn page
 have HS := Aside0.mk hs
 have HN := Aside0.mk hnode
 have HP := Aside0.mk hP
 have HL := Aside0.mk hL
 have HCASE := Aside0.mk hcase
 have HRN := Aside0.mk hrn
 have T0 := Aside0.mk hT
 obtain ⟨pg, pr, dp, order, bad⟩ := st
 obtain ⟨n, hn⟩ : ∃ n, (rn page).1 = n := ⟨_, rfl⟩
 obtain ⟨ok, hok⟩ : ∃ ok, (rn page).2 = ok := ⟨_, rfl⟩
 have HNN := Aside0.mk (And.intro hn hok)
 rw [hn, hok] at HN HCASE
 obtain ⟨leaf, keys, vals, kids⟩ := n
 simp only at T0
 clear hs hnode hP hL hcase hrn hT hn hok
 rw [HNN.out.2] at hbad
 simp only at hbad
 cases ok with
 | false =>
  clear hbad
  go_enter Try.func140, Try.ntmps140
  go_upto_region 1 with (fail)
  have TA := Aside0.mk (T0.out.alloc (.cells #[.slice AP pages.length cP, .slice AL late.length cL] 41))
  have BA := Aside0.mk (blk_new w (.cells #[.slice AP pages.length cP, .slice AL late.length cL] 41))
  have HFA := Aside0.mk ((TFr.refl w g (.slice Ag pg.length cg) (.slice Ap pr.length cp) (.slice Ad dp.length cd)).below (below_alloc (Below.refl _ _) (.cells #[.slice AP pages.length cP, .slice AL late.length cL] 41)))
  have hsA := Aside0.mk (show w.heap.size ≤ w.heap.size from Nat.le_refl _)
  obtain ⟨gD, hgd⟩ : ∃ z, w.heap.size = z := ⟨_, rfl⟩
  generalize hwa : w.alloc (.cells #[.slice AP pages.length cP, .slice AL late.length cL] 41) = wA at TA BA HFA ⊢
  clear hwa T0
  rw [hgd] at BA ⊢
  have HGD := Aside0.mk hgd
  clear hgd hsA
  have hgD := blk_lt BA.out
  have hx0 : wA.cell? ⟨gD, 0, none⟩ = some (.slice AP pages.length cP) := (blk_cell BA.out 0).trans rfl
  have hx1 : wA.cell? ⟨gD, 1, none⟩ = some (.slice AL late.length cL) := (blk_cell BA.out 1).trans rfl
  go_wp2_with fail
  ((with_reducible refine (spec_ReadPage.calls k AP cP pages AL cL late page s _ (Kd.C_below HP.out TA.out.bel) hcP (Kd.C_below HL.out TA.out.bel) hcL HS.out).mono ?_); rintro e w1 ⟨rfl, hb1⟩)
  have T1 := Aside0.mk (TA.out.below hb1)
  have HB1 := Aside0.mk hb1
  clear hb1
  go_wp2_with fail
  ((with_reducible refine (HN.out _).mono ?_); rintro e w2 ⟨A1, c1, A2, c2, A3, c3, rfl, r1, r2, r3, hb2⟩)
  have T3 := Aside0.mk ((T1.out.below hb2).alloc (.cells #[.bool leaf, .slice A1 keys.length c1, .slice A2 vals.length c2, .slice A3 kids.length c3] 68))
  have HB2 := Aside0.mk (show Below wA.heap.size wA w2 from below_step HB1.out hb2)
  have BN := Aside0.mk (blk_new w2 (.cells #[.bool leaf, .slice A1 keys.length c1, .slice A2 vals.length c2, .slice A3 kids.length c3] 68))
  have BD := Aside0.mk (blk_below BA.out (below_alloc HB2.out (.cells #[.bool leaf, .slice A1 keys.length c1, .slice A2 vals.length c2, .slice A3 kids.length c3] 68)))
  have R1 := Aside0.mk (Kd.R_lower (base' := w0.heap.size) (Kd.R_below r1 (below_alloc (Below.refl _ _) (.cells #[.bool leaf, .slice A1 keys.length c1, .slice A2 vals.length c2, .slice A3 kids.length c3] 68))) T1.out.bel.size)
  have R2 := Aside0.mk (Kd.R_lower (base' := w0.heap.size) (Kd.R_below r2 (below_alloc (Below.refl _ _) (.cells #[.bool leaf, .slice A1 keys.length c1, .slice A2 vals.length c2, .slice A3 kids.length c3] 68))) T1.out.bel.size)
  have R3 := Aside0.mk (Kd.R_lower (base' := w0.heap.size) (Kd.R_below r3 (below_alloc (Below.refl _ _) (.cells #[.bool leaf, .slice A1 keys.length c1, .slice A2 vals.length c2, .slice A3 kids.length c3] 68))) T1.out.bel.size)
  have HF3 := Aside0.mk (HFA.out.below (below_alloc HB2.out (.cells #[.bool leaf, .slice A1 keys.length c1, .slice A2 vals.length c2, .slice A3 kids.length c3] 68)))
  have HNE := Aside0.mk (show NeRow (.slice A1 keys.length c1) (.slice Ag pg.length cg) ∧ NeRow (.slice A3 kids.length c3) (.slice Ag pg.length cg) ∧ NeRow (.slice A3 kids.length c3) (.slice Ad dp.length cd) from ⟨ne_fresh r1 T1.out.rg, ne_fresh r3 T1.out.rg, ne_fresh r3 T1.out.rd⟩)
  clear r1 r2 r3 hb2 T1 TA BA HFA hx0 hx1
  go_upto_region 2 with (fail)
  have hgN := Aside0.mk (blk_lt BN.out)
  generalize hw3 : w2.alloc (.cells #[.bool leaf, .slice A1 keys.length c1, .slice A2 vals.length c2, .slice A3 kids.length c3] 68) = w3 at T3 BN BD R1 R2 R3 HF3 hgN ⊢
  clear hw3 HB1 HB2
  obtain ⟨gN, hgn⟩ : ∃ gN, w2.heap.size = gN := ⟨_, rfl⟩
  rw [hgn] at BN hgN ⊢
  clear hgn hgD
  have hgl := blk_lt T3.out.bT
  have hf2 := blk_frozen T3.out.bT
  have hd0 : w3.cell? ⟨g, 1, none⟩ = some (.slice Ag pg.length cg) := (blk_cell T3.out.bT 1).trans rfl
  have hd3 : w3.cell? ⟨g, 3, none⟩ = some (.bool bad) := (blk_cell T3.out.bT 3).trans rfl
  go_wp2
  refine bodyPost_ret (results_list (rs := []) (vs := []) rfl (by simp) Vals.nil) rfl ?_
  exact ⟨rfl, Ag, cg, Ap, cp, Ad, cd, set2 layS (by decide) T3.out, HF3.out.set _ _⟩
 | true =>
  by_cases hd : deep ≥ 8
  ·have hd1 : decide (8 ≤ deep) = true := decide_eq_true hd
   clear hbad hd
   go_enter Try.func140, Try.ntmps140
   go_upto_region 1 with (fail)
   have TA := Aside0.mk (T0.out.alloc (.cells #[.slice AP pages.length cP, .slice AL late.length cL] 41))
   have BA := Aside0.mk (blk_new w (.cells #[.slice AP pages.length cP, .slice AL late.length cL] 41))
   have HFA := Aside0.mk ((TFr.refl w g (.slice Ag pg.length cg) (.slice Ap pr.length cp) (.slice Ad dp.length cd)).below (below_alloc (Below.refl _ _) (.cells #[.slice AP pages.length cP, .slice AL late.length cL] 41)))
   have hsA := Aside0.mk (show w.heap.size ≤ w.heap.size from Nat.le_refl _)
   obtain ⟨gD, hgd⟩ : ∃ z, w.heap.size = z := ⟨_, rfl⟩
   generalize hwa : w.alloc (.cells #[.slice AP pages.length cP, .slice AL late.length cL] 41) = wA at TA BA HFA ⊢
   clear hwa T0
   rw [hgd] at BA ⊢
   have HGD := Aside0.mk hgd
   clear hgd hsA
   have hgD := blk_lt BA.out
   have hx0 : wA.cell? ⟨gD, 0, none⟩ = some (.slice AP pages.length cP) := (blk_cell BA.out 0).trans rfl
   have hx1 : wA.cell? ⟨gD, 1, none⟩ = some (.slice AL late.length cL) := (blk_cell BA.out 1).trans rfl
   go_wp2_with fail
   ((with_reducible refine (spec_ReadPage.calls k AP cP pages AL cL late page s _ (Kd.C_below HP.out TA.out.bel) hcP (Kd.C_below HL.out TA.out.bel) hcL HS.out).mono ?_); rintro e w1 ⟨rfl, hb1⟩)
   have T1 := Aside0.mk (TA.out.below hb1)
   have HB1 := Aside0.mk hb1
   clear hb1
   go_wp2_with fail
   ((with_reducible refine (HN.out _).mono ?_); rintro e w2 ⟨A1, c1, A2, c2, A3, c3, rfl, r1, r2, r3, hb2⟩)
   have T3 := Aside0.mk ((T1.out.below hb2).alloc (.cells #[.bool leaf, .slice A1 keys.length c1, .slice A2 vals.length c2, .slice A3 kids.length c3] 68))
   have HB2 := Aside0.mk (show Below wA.heap.size wA w2 from below_step HB1.out hb2)
   have BN := Aside0.mk (blk_new w2 (.cells #[.bool leaf, .slice A1 keys.length c1, .slice A2 vals.length c2, .slice A3 kids.length c3] 68))
   have BD := Aside0.mk (blk_below BA.out (below_alloc HB2.out (.cells #[.bool leaf, .slice A1 keys.length c1, .slice A2 vals.length c2, .slice A3 kids.length c3] 68)))
   have R1 := Aside0.mk (Kd.R_lower (base' := w0.heap.size) (Kd.R_below r1 (below_alloc (Below.refl _ _) (.cells #[.bool leaf, .slice A1 keys.length c1, .slice A2 vals.length c2, .slice A3 kids.length c3] 68))) T1.out.bel.size)
   have R2 := Aside0.mk (Kd.R_lower (base' := w0.heap.size) (Kd.R_below r2 (below_alloc (Below.refl _ _) (.cells #[.bool leaf, .slice A1 keys.length c1, .slice A2 vals.length c2, .slice A3 kids.length c3] 68))) T1.out.bel.size)
   have R3 := Aside0.mk (Kd.R_lower (base' := w0.heap.size) (Kd.R_below r3 (below_alloc (Below.refl _ _) (.cells #[.bool leaf, .slice A1 keys.length c1, .slice A2 vals.length c2, .slice A3 kids.length c3] 68))) T1.out.bel.size)
   have HF3 := Aside0.mk (HFA.out.below (below_alloc HB2.out (.cells #[.bool leaf, .slice A1 keys.length c1, .slice A2 vals.length c2, .slice A3 kids.length c3] 68)))
   have HNE := Aside0.mk (show NeRow (.slice A1 keys.length c1) (.slice Ag pg.length cg) ∧ NeRow (.slice A3 kids.length c3) (.slice Ag pg.length cg) ∧ NeRow (.slice A3 kids.length c3) (.slice Ad dp.length cd) from ⟨ne_fresh r1 T1.out.rg, ne_fresh r3 T1.out.rg, ne_fresh r3 T1.out.rd⟩)
   clear r1 r2 r3 hb2 T1 TA BA HFA hx0 hx1
   go_upto_region 2 with (fail)
   have hgN := Aside0.mk (blk_lt BN.out)
   generalize hw3 : w2.alloc (.cells #[.bool leaf, .slice A1 keys.length c1, .slice A2 vals.length c2, .slice A3 kids.length c3] 68) = w3 at T3 BN BD R1 R2 R3 HF3 hgN ⊢
   clear hw3 HB1 HB2
   obtain ⟨gN, hgn⟩ : ∃ gN, w2.heap.size = gN := ⟨_, rfl⟩
   rw [hgn] at BN hgN ⊢
   clear hgn hgD
   have hgl := blk_lt T3.out.bT
   have hf2 := blk_frozen T3.out.bT
   have hd0 : w3.cell? ⟨g, 1, none⟩ = some (.slice Ag pg.length cg) := (blk_cell T3.out.bT 1).trans rfl
   have hd3 : w3.cell? ⟨g, 3, none⟩ = some (.bool bad) := (blk_cell T3.out.bT 3).trans rfl
   go_wp2
   refine bodyPost_ret (results_list (rs := []) (vs := []) rfl (by simp) Vals.nil) rfl ?_
   exact ⟨rfl, Ag, cg, Ap, cp, Ad, cd, set2 layS (by decide) T3.out, HF3.out.set _ _⟩
  ·have hd1 : decide (8 ≤ deep) = false := decide_eq_false (by omega)
   have hbad2 : pg.contains page = true ∨ (pg.contains page = false ∧ bad = true) := by
    rcases hbad with e | e | e | e
    ·cases e
    ·exact absurd e hd
    ·exact .inl e
    ·cases h : pg.contains page
     ·exact .inr ⟨rfl, e⟩
     ·exact .inl rfl
   clear hbad hd
   rcases hbad2 with hcon | ⟨hcon, rfl⟩
   ·obtain ⟨kc, hkc⟩ := in_ev pg page true hcon (R_seen T0.out.rg).2.2.1
    have HKC := Aside0.mk hkc
    clear hcon hkc
    go_enter Try.func140, Try.ntmps140
    go_upto_region 1 with (fail)
    have TA := Aside0.mk (T0.out.alloc (.cells #[.slice AP pages.length cP, .slice AL late.length cL] 41))
    have BA := Aside0.mk (blk_new w (.cells #[.slice AP pages.length cP, .slice AL late.length cL] 41))
    have HFA := Aside0.mk ((TFr.refl w g (.slice Ag pg.length cg) (.slice Ap pr.length cp) (.slice Ad dp.length cd)).below (below_alloc (Below.refl _ _) (.cells #[.slice AP pages.length cP, .slice AL late.length cL] 41)))
    have hsA := Aside0.mk (show w.heap.size ≤ w.heap.size from Nat.le_refl _)
    obtain ⟨gD, hgd⟩ : ∃ z, w.heap.size = z := ⟨_, rfl⟩
    generalize hwa : w.alloc (.cells #[.slice AP pages.length cP, .slice AL late.length cL] 41) = wA at TA BA HFA ⊢
    clear hwa T0
    rw [hgd] at BA ⊢
    have HGD := Aside0.mk hgd
    clear hgd hsA
    have hgD := blk_lt BA.out
    have hx0 : wA.cell? ⟨gD, 0, none⟩ = some (.slice AP pages.length cP) := (blk_cell BA.out 0).trans rfl
    have hx1 : wA.cell? ⟨gD, 1, none⟩ = some (.slice AL late.length cL) := (blk_cell BA.out 1).trans rfl
    go_wp2_with fail
    ((with_reducible refine (spec_ReadPage.calls k AP cP pages AL cL late page s _ (Kd.C_below HP.out TA.out.bel) hcP (Kd.C_below HL.out TA.out.bel) hcL HS.out).mono ?_); rintro e w1 ⟨rfl, hb1⟩)
    have T1 := Aside0.mk (TA.out.below hb1)
    have HB1 := Aside0.mk hb1
    clear hb1
    go_wp2_with fail
    ((with_reducible refine (HN.out _).mono ?_); rintro e w2 ⟨A1, c1, A2, c2, A3, c3, rfl, r1, r2, r3, hb2⟩)
    have T3 := Aside0.mk ((T1.out.below hb2).alloc (.cells #[.bool leaf, .slice A1 keys.length c1, .slice A2 vals.length c2, .slice A3 kids.length c3] 68))
    have HB2 := Aside0.mk (show Below wA.heap.size wA w2 from below_step HB1.out hb2)
    have BN := Aside0.mk (blk_new w2 (.cells #[.bool leaf, .slice A1 keys.length c1, .slice A2 vals.length c2, .slice A3 kids.length c3] 68))
    have BD := Aside0.mk (blk_below BA.out (below_alloc HB2.out (.cells #[.bool leaf, .slice A1 keys.length c1, .slice A2 vals.length c2, .slice A3 kids.length c3] 68)))
    have R1 := Aside0.mk (Kd.R_lower (base' := w0.heap.size) (Kd.R_below r1 (below_alloc (Below.refl _ _) (.cells #[.bool leaf, .slice A1 keys.length c1, .slice A2 vals.length c2, .slice A3 kids.length c3] 68))) T1.out.bel.size)
    have R2 := Aside0.mk (Kd.R_lower (base' := w0.heap.size) (Kd.R_below r2 (below_alloc (Below.refl _ _) (.cells #[.bool leaf, .slice A1 keys.length c1, .slice A2 vals.length c2, .slice A3 kids.length c3] 68))) T1.out.bel.size)
    have R3 := Aside0.mk (Kd.R_lower (base' := w0.heap.size) (Kd.R_below r3 (below_alloc (Below.refl _ _) (.cells #[.bool leaf, .slice A1 keys.length c1, .slice A2 vals.length c2, .slice A3 kids.length c3] 68))) T1.out.bel.size)
    have HF3 := Aside0.mk (HFA.out.below (below_alloc HB2.out (.cells #[.bool leaf, .slice A1 keys.length c1, .slice A2 vals.length c2, .slice A3 kids.length c3] 68)))
    have HNE := Aside0.mk (show NeRow (.slice A1 keys.length c1) (.slice Ag pg.length cg) ∧ NeRow (.slice A3 kids.length c3) (.slice Ag pg.length cg) ∧ NeRow (.slice A3 kids.length c3) (.slice Ad dp.length cd) from ⟨ne_fresh r1 T1.out.rg, ne_fresh r3 T1.out.rg, ne_fresh r3 T1.out.rd⟩)
    clear r1 r2 r3 hb2 T1 TA BA HFA hx0 hx1
    go_upto_region 2 with (fail)
    have hgN := Aside0.mk (blk_lt BN.out)
    generalize hw3 : w2.alloc (.cells #[.bool leaf, .slice A1 keys.length c1, .slice A2 vals.length c2, .slice A3 kids.length c3] 68) = w3 at T3 BN BD R1 R2 R3 HF3 hgN ⊢
    clear hw3 HB1 HB2
    obtain ⟨gN, hgn⟩ : ∃ gN, w2.heap.size = gN := ⟨_, rfl⟩
    rw [hgn] at BN hgN ⊢
    clear hgn hgD
    have hgl := blk_lt T3.out.bT
    have hf2 := blk_frozen T3.out.bT
    have hd0 : w3.cell? ⟨g, 1, none⟩ = some (.slice Ag pg.length cg) := (blk_cell T3.out.bT 1).trans rfl
    have hd3 : w3.cell? ⟨g, 3, none⟩ = some (.bool bad) := (blk_cell T3.out.bT 3).trans rfl
    go_wp2_with fail
    ((with_reducible refine (spec_l06In.calls kc Ag cg pg page true _ (R_seen T3.out.rg).2 (R_seen T3.out.rg).1 HKC.out).mono ?_); rintro e w4 ⟨rfl, nd4, rfl⟩)
    go_wp2
    refine bodyPost_ret (results_list (rs := []) (vs := []) rfl (by simp) Vals.nil) rfl ?_
    exact ⟨rfl, Ag, cg, Ap, cp, Ad, cd, set2 layS (by decide) (T3.out.below (Drawn0.below ⟨nd4, rfl⟩)), (HF3.out.below (Drawn0.below ⟨nd4, rfl⟩)).set _ _⟩
   ·obtain ⟨kc, hkc⟩ := in_ev pg page false hcon (R_seen T0.out.rg).2.2.1
    have HKC := Aside0.mk hkc
    clear hcon hkc
    go_enter Try.func140, Try.ntmps140
    go_upto_region 1 with (fail)
    have TA := Aside0.mk (T0.out.alloc (.cells #[.slice AP pages.length cP, .slice AL late.length cL] 41))
    have BA := Aside0.mk (blk_new w (.cells #[.slice AP pages.length cP, .slice AL late.length cL] 41))
    have HFA := Aside0.mk ((TFr.refl w g (.slice Ag pg.length cg) (.slice Ap pr.length cp) (.slice Ad dp.length cd)).below (below_alloc (Below.refl _ _) (.cells #[.slice AP pages.length cP, .slice AL late.length cL] 41)))
    have hsA := Aside0.mk (show w.heap.size ≤ w.heap.size from Nat.le_refl _)
    obtain ⟨gD, hgd⟩ : ∃ z, w.heap.size = z := ⟨_, rfl⟩
    generalize hwa : w.alloc (.cells #[.slice AP pages.length cP, .slice AL late.length cL] 41) = wA at TA BA HFA ⊢
    clear hwa T0
    rw [hgd] at BA ⊢
    have HGD := Aside0.mk hgd
    clear hgd hsA
    have hgD := blk_lt BA.out
    have hx0 : wA.cell? ⟨gD, 0, none⟩ = some (.slice AP pages.length cP) := (blk_cell BA.out 0).trans rfl
    have hx1 : wA.cell? ⟨gD, 1, none⟩ = some (.slice AL late.length cL) := (blk_cell BA.out 1).trans rfl
    go_wp2_with fail
    ((with_reducible refine (spec_ReadPage.calls k AP cP pages AL cL late page s _ (Kd.C_below HP.out TA.out.bel) hcP (Kd.C_below HL.out TA.out.bel) hcL HS.out).mono ?_); rintro e w1 ⟨rfl, hb1⟩)
    have T1 := Aside0.mk (TA.out.below hb1)
    have HB1 := Aside0.mk hb1
    clear hb1
    go_wp2_with fail
    ((with_reducible refine (HN.out _).mono ?_); rintro e w2 ⟨A1, c1, A2, c2, A3, c3, rfl, r1, r2, r3, hb2⟩)
    have T3 := Aside0.mk ((T1.out.below hb2).alloc (.cells #[.bool leaf, .slice A1 keys.length c1, .slice A2 vals.length c2, .slice A3 kids.length c3] 68))
    have HB2 := Aside0.mk (show Below wA.heap.size wA w2 from below_step HB1.out hb2)
    have BN := Aside0.mk (blk_new w2 (.cells #[.bool leaf, .slice A1 keys.length c1, .slice A2 vals.length c2, .slice A3 kids.length c3] 68))
    have BD := Aside0.mk (blk_below BA.out (below_alloc HB2.out (.cells #[.bool leaf, .slice A1 keys.length c1, .slice A2 vals.length c2, .slice A3 kids.length c3] 68)))
    have R1 := Aside0.mk (Kd.R_lower (base' := w0.heap.size) (Kd.R_below r1 (below_alloc (Below.refl _ _) (.cells #[.bool leaf, .slice A1 keys.length c1, .slice A2 vals.length c2, .slice A3 kids.length c3] 68))) T1.out.bel.size)
    have R2 := Aside0.mk (Kd.R_lower (base' := w0.heap.size) (Kd.R_below r2 (below_alloc (Below.refl _ _) (.cells #[.bool leaf, .slice A1 keys.length c1, .slice A2 vals.length c2, .slice A3 kids.length c3] 68))) T1.out.bel.size)
    have R3 := Aside0.mk (Kd.R_lower (base' := w0.heap.size) (Kd.R_below r3 (below_alloc (Below.refl _ _) (.cells #[.bool leaf, .slice A1 keys.length c1, .slice A2 vals.length c2, .slice A3 kids.length c3] 68))) T1.out.bel.size)
    have HF3 := Aside0.mk (HFA.out.below (below_alloc HB2.out (.cells #[.bool leaf, .slice A1 keys.length c1, .slice A2 vals.length c2, .slice A3 kids.length c3] 68)))
    have HNE := Aside0.mk (show NeRow (.slice A1 keys.length c1) (.slice Ag pg.length cg) ∧ NeRow (.slice A3 kids.length c3) (.slice Ag pg.length cg) ∧ NeRow (.slice A3 kids.length c3) (.slice Ad dp.length cd) from ⟨ne_fresh r1 T1.out.rg, ne_fresh r3 T1.out.rg, ne_fresh r3 T1.out.rd⟩)
    clear r1 r2 r3 hb2 T1 TA BA HFA hx0 hx1
    go_upto_region 2 with (fail)
    have hgN := Aside0.mk (blk_lt BN.out)
    generalize hw3 : w2.alloc (.cells #[.bool leaf, .slice A1 keys.length c1, .slice A2 vals.length c2, .slice A3 kids.length c3] 68) = w3 at T3 BN BD R1 R2 R3 HF3 hgN ⊢
    clear hw3 HB1 HB2
    obtain ⟨gN, hgn⟩ : ∃ gN, w2.heap.size = gN := ⟨_, rfl⟩
    rw [hgn] at BN hgN ⊢
    clear hgn hgD
    have hgl := blk_lt T3.out.bT
    have hf2 := blk_frozen T3.out.bT
    have hd0 : w3.cell? ⟨g, 1, none⟩ = some (.slice Ag pg.length cg) := (blk_cell T3.out.bT 1).trans rfl
    have hd3 : w3.cell? ⟨g, 3, none⟩ = some (.bool true) := (blk_cell T3.out.bT 3).trans rfl
    go_wp2_with fail
    ((with_reducible refine (spec_l06In.calls kc Ag cg pg page false _ (R_seen T3.out.rg).2 (R_seen T3.out.rg).1 HKC.out).mono ?_); rintro e w4 ⟨rfl, nd4, rfl⟩)
    go_wp2
    refine bodyPost_ret (results_list (rs := []) (vs := []) rfl (by simp) Vals.nil) rfl ?_
    exact ⟨rfl, Ag, cg, Ap, cp, Ad, cd, set2 layS (by decide) (T3.out.below (Drawn0.below ⟨nd4, rfl⟩)), (HF3.out.below (Drawn0.below ⟨nd4, rfl⟩)).set _ _⟩
def spec_l07Walk.T12 : Bool × List (List Nat × List Nat) := (true, [([], []), ([], []), ([1], [1]), ([2], [2]), ([3], [3]), ([], []), ([], []), ([6], [6]), ([], []), ([7, 8], [7, 8]), ([9], [9]), ([5, 10], [5, 10]), ([11], [11]), ([4, 12], [4, 12]), ([0, 0, 1, 2, 3, 4, 5, 6, 7, 8, 9, 10, 11, 12, 13], [0]), ([14, 0, 1, 2, 3, 4, 5, 6, 7, 8, 9, 10, 11, 12, 13], [14]), ([15, 13, 13, 0, 1, 2, 3, 4, 5, 6, 7, 8, 9, 10, 11, 12, 13], [13, 15])])
def spec_l07Walk.B12 : List Nat := [0, 0, 2, 6, 14, 0, 0, 64, 0, 448, 960, 2016, 4064, 8190, 16383, 32767, 65535]
theorem spec_l07Walk.tab12 : rtab .any (opsOf Try.f140 12) = spec_l07Walk.T12 := by kernel_rfl
theorem spec_l07Walk.bits12 : waitsOk spec_l07Walk.T12.2 spec_l07Walk.B12 = true := by kernel_rfl
theorem any_take_succ {α : Type} (l : List α) (p : α → Bool) (k : Nat) (h : k < l.length) : (l.take (k + 1)).any p = ((l.take k).any p || p l[k]) := by
 rw [List.take_add_one, List.getElem?_eq_getElem h, Option.toList_some, List.any_append, List.any_cons, List.any_nil, Bool.or_false]
set_option maxHeartbeats 32000000 in
set_option maxRecDepth 100000 in
theorem walk_leaf (AP : Option Addr) (cP : Nat) (pages : List ByteArray) (AL : Option Addr) (cL : Nat) (late : List S189) (w0 : World) (hP : Kd.C Kd.string w0 AP pages.length pages) (hcP : pages.length ≤ cP) (hL : Kd.C k189 w0 AL late.length late) (hcL : late.length ≤ cL) (rn : Int → S68 × Bool) (hrn : RnS pages late rn) (g : Nat) (st : TSt) (page deep : Int) (low high : ByteArray) (has : Bool) (w : World) (Ag : Option Addr) (cg : Nat) (Ap : Option Addr) (cp : Nat) (Ad : Option Addr) (cd : Nat) (hT : TInv cellsS 138 w0 w g (.slice Ag st.pg.length cg) (.slice Ap st.pr.length cp) (.slice Ad st.dp.length cd) st.order st.bad st.pg st.pr st.dp) (hbad : st.bad = false) (hok : (rn page).2 = true) (hd : deep < 8) (hcon : st.pg.contains page = false) (hleaf : (rn page).1.f0 = true) (hlg : st.pg.length ≤ 1000000) (hlp : st.pr.length ≤ 1000000) (hld : st.dp.length ≤ 1000000) :
  Calls Try.prog 140 #[.agg #[.slice AP pages.length cP, .slice AL late.length cL], .int .i64 page, .int .i64 deep, .string low, .string high, .bool has, .pointer (some ⟨g, 0, none⟩)] w (DownPost cellsS 138 w0 w g (.slice Ag st.pg.length cg) (.slice Ap st.pr.length cp) (.slice Ad st.dp.length cd) ⟨st.pg ++ [page], st.pr ++ pairsTo (rn page).1.f1 (rn page).1.f2 (rn page).1.f1.length, st.dp ++ [deep], st.order || (rn page).1.f1.any (outB low high has), st.bad⟩) := by
 obtain ⟨s, ⟨k, hs⟩, hnode, hcase⟩ := hrn page
 have HS := Aside0.mk hs
 have HN := Aside0.mk hnode
 have HP := Aside0.mk hP
 have HL := Aside0.mk hL
 have HCASE := Aside0.mk hcase
 have HRN := Aside0.mk hrn
 have T0 := Aside0.mk hT
 obtain ⟨pg, pr, dp, order, bad⟩ := st
 obtain ⟨n, hn⟩ : ∃ n, (rn page).1 = n := ⟨_, rfl⟩
 obtain ⟨ok, hok⟩ : ∃ ok, (rn page).2 = ok := ⟨_, rfl⟩
 have HNN := Aside0.mk (And.intro hn hok)
 rw [hn, hok] at HN HCASE
 obtain ⟨leaf, keys, vals, kids⟩ := n
 simp only at T0
 clear hs hnode hP hL hcase hrn hT hn hok
 rw [HNN.out.1] at hleaf ⊢
 simp only at hbad hcon hlg hlp hld hleaf ⊢
 subst hleaf
 subst hbad
 rw [HNN.out.2] at hok
 subst hok
 have hd1 : decide (8 ≤ deep) = false := decide_eq_false (by omega)
 have hnk : nodeOkB true keys vals kids = true := by
  rcases HCASE.out with h | h
  ·exact h.2
  ·cases h.1
 obtain ⟨hshape, hcond⟩ := (nodeOk_iff _ _ _ _).1 hnk
 obtain ⟨kc, hkc⟩ := in_ev pg page false hcon (R_seen T0.out.rg).2.2.1
 have HKC := Aside0.mk hkc
 have HLG := Aside0.mk hlg
 have HLP := Aside0.mk hlp
 have HLD := Aside0.mk hld
 obtain ⟨ks1, hks⟩ : ∃ z, z = pg ++ [page] := ⟨_, rfl⟩
 have HKS1 := Aside0.mk hks
 clear hd hcon hkc hnk hlg hlp hld hks hcond
 obtain ⟨ks2, hks⟩ : ∃ z, z = dp ++ [deep] := ⟨_, rfl⟩
 have HKS2 := Aside0.mk hks
 have HVL := Aside0.mk (hshape.2.1 rfl).1
 have hkl := hshape.1.2
 clear hks hshape
 go_enter Try.func140, Try.ntmps140
 go_upto_region 1 with (fail)
 have TA := Aside0.mk (T0.out.alloc (.cells #[.slice AP pages.length cP, .slice AL late.length cL] 41))
 have BA := Aside0.mk (blk_new w (.cells #[.slice AP pages.length cP, .slice AL late.length cL] 41))
 have HFA := Aside0.mk ((TFr.refl w g (.slice Ag pg.length cg) (.slice Ap pr.length cp) (.slice Ad dp.length cd)).below (below_alloc (Below.refl _ _) (.cells #[.slice AP pages.length cP, .slice AL late.length cL] 41)))
 have hsA := Aside0.mk (show w.heap.size ≤ w.heap.size from Nat.le_refl _)
 obtain ⟨gD, hgd⟩ : ∃ z, w.heap.size = z := ⟨_, rfl⟩
 generalize hwa : w.alloc (.cells #[.slice AP pages.length cP, .slice AL late.length cL] 41) = wA at TA BA HFA ⊢
 clear hwa T0
 rw [hgd] at BA ⊢
 have HGD := Aside0.mk hgd
 clear hgd hsA
 have hgD := blk_lt BA.out
 have hx0 : wA.cell? ⟨gD, 0, none⟩ = some (.slice AP pages.length cP) := (blk_cell BA.out 0).trans rfl
 have hx1 : wA.cell? ⟨gD, 1, none⟩ = some (.slice AL late.length cL) := (blk_cell BA.out 1).trans rfl
 go_wp2_with fail
 ((with_reducible refine (spec_ReadPage.calls k AP cP pages AL cL late page s _ (Kd.C_below HP.out TA.out.bel) hcP (Kd.C_below HL.out TA.out.bel) hcL HS.out).mono ?_); rintro e w1 ⟨rfl, hb1⟩)
 have T1 := Aside0.mk (TA.out.below hb1)
 have HB1 := Aside0.mk hb1
 clear hb1
 go_wp2_with fail
 ((with_reducible refine (HN.out _).mono ?_); rintro e w2 ⟨A1, c1, A2, c2, A3, c3, rfl, r1, r2, r3, hb2⟩)
 have T3 := Aside0.mk ((T1.out.below hb2).alloc (.cells #[.bool true, .slice A1 keys.length c1, .slice A2 vals.length c2, .slice A3 kids.length c3] 68))
 have HB2 := Aside0.mk (show Below wA.heap.size wA w2 from below_step HB1.out hb2)
 have BN := Aside0.mk (blk_new w2 (.cells #[.bool true, .slice A1 keys.length c1, .slice A2 vals.length c2, .slice A3 kids.length c3] 68))
 have BD := Aside0.mk (blk_below BA.out (below_alloc HB2.out (.cells #[.bool true, .slice A1 keys.length c1, .slice A2 vals.length c2, .slice A3 kids.length c3] 68)))
 have R1 := Aside0.mk (Kd.R_lower (base' := w0.heap.size) (Kd.R_below r1 (below_alloc (Below.refl _ _) (.cells #[.bool true, .slice A1 keys.length c1, .slice A2 vals.length c2, .slice A3 kids.length c3] 68))) T1.out.bel.size)
 have R2 := Aside0.mk (Kd.R_lower (base' := w0.heap.size) (Kd.R_below r2 (below_alloc (Below.refl _ _) (.cells #[.bool true, .slice A1 keys.length c1, .slice A2 vals.length c2, .slice A3 kids.length c3] 68))) T1.out.bel.size)
 have R3 := Aside0.mk (Kd.R_lower (base' := w0.heap.size) (Kd.R_below r3 (below_alloc (Below.refl _ _) (.cells #[.bool true, .slice A1 keys.length c1, .slice A2 vals.length c2, .slice A3 kids.length c3] 68))) T1.out.bel.size)
 have HF3 := Aside0.mk (HFA.out.below (below_alloc HB2.out (.cells #[.bool true, .slice A1 keys.length c1, .slice A2 vals.length c2, .slice A3 kids.length c3] 68)))
 have HNE := Aside0.mk (show NeRow (.slice A1 keys.length c1) (.slice Ag pg.length cg) ∧ NeRow (.slice A3 kids.length c3) (.slice Ag pg.length cg) ∧ NeRow (.slice A3 kids.length c3) (.slice Ad dp.length cd) from ⟨ne_fresh r1 T1.out.rg, ne_fresh r3 T1.out.rg, ne_fresh r3 T1.out.rd⟩)
 clear r1 r2 r3 hb2 T1 TA BA HFA hx0 hx1
 go_upto_region 2 with (fail)
 have hgN := Aside0.mk (blk_lt BN.out)
 generalize hw3 : w2.alloc (.cells #[.bool true, .slice A1 keys.length c1, .slice A2 vals.length c2, .slice A3 kids.length c3] 68) = w3 at T3 BN BD R1 R2 R3 HF3 hgN ⊢
 clear hw3 HB1 HB2
 obtain ⟨gN, hgn⟩ : ∃ gN, w2.heap.size = gN := ⟨_, rfl⟩
 rw [hgn] at BN hgN ⊢
 clear hgn hgD
 have hgl := blk_lt T3.out.bT
 have hf2 := blk_frozen T3.out.bT
 have hd0 : w3.cell? ⟨g, 1, none⟩ = some (.slice Ag pg.length cg) := (blk_cell T3.out.bT 1).trans rfl
 have hd3 : w3.cell? ⟨g, 3, none⟩ = some (.bool false) := (blk_cell T3.out.bT 3).trans rfl
 go_wp2_with fail
 ((with_reducible refine (spec_l06In.calls kc Ag cg pg page false _ (R_seen T3.out.rg).2 (R_seen T3.out.rg).1 HKC.out).mono ?_); rintro e w4 ⟨rfl, nd4, rfl⟩)
 have T4 := Aside0.mk (T3.out.below (Drawn0.below ⟨nd4, rfl⟩))
 have BN4 := Aside0.mk (blk_below BN.out (Drawn0.below ⟨nd4, rfl⟩))
 have BD4 := Aside0.mk (blk_below BD.out (Drawn0.below ⟨nd4, rfl⟩))
 have R14 := Aside0.mk (Kd.R_below R1.out (Drawn0.below ⟨nd4, rfl⟩))
 have R24 := Aside0.mk (Kd.R_below R2.out (Drawn0.below ⟨nd4, rfl⟩))
 have R34 := Aside0.mk (Kd.R_below R3.out (Drawn0.below ⟨nd4, rfl⟩))
 have HF4 := Aside0.mk (HF3.out.below (Drawn0.below ⟨nd4, rfl⟩))
 clear T3 BN BD R1 R2 R3 HF3
 generalize w3.drewN nd4 = w4 at T4 BN4 BD4 R14 R24 R34 HF4 ⊢
 have hgl4 := blk_lt T4.out.bT
 have hd14 : w4.cell? ⟨g, 1, none⟩ = some (.slice Ag pg.length cg) := (blk_cell T4.out.bT 1).trans rfl
 have hd34 : w4.cell? ⟨g, 3, none⟩ = some (.bool false) := (blk_cell T4.out.bT 3).trans rfl
 clear hf2 hd0 hd3 hgl
 go_upto_region 5 with (((with_reducible refine gate_builtin (b := .append) (xs := #[.tmp 55, .tmp 57]) rfl ?_); at_builtin; refine Kd.R_append (Kd.int .i64) (w0 := w0) w0.heap.size rfl (.tmp 55) (.tmp 57) 30 3 (.int .i64 0) 8 rfl Try.underlying30 info3d rfl (by decide) (by omega) (.slice Ag pg.length cg) pg page [.int .i64 page] (fun _ => True) (fun _ => False) rfl rfl ?aP (fun _ hk => hk.elim) ?aF ?aO ?aB ?aS ?aL ?_; (case aP => exact rfl); (case aF => exact (fun _ _ => trivial)); (case aO => exact T4.out.rg); (case aB => exact T4.out.bel); (case aS => exact T4.out.bel.size); (case aL => have := HLG.out; omega); intro va wa ho hb hgr hat; rw [← HKS1.out] at ho; obtain ⟨Ao1, co1, eo⟩ := Kd.R_slice ho; subst eo; have ba := Aside0.mk (blk_grown T4.out.bT hgr (Kd.R_ne T4.out.rg T4.out.bT (by decide))); have hsa : wa.cell? ⟨g, 1, none⟩ = some (.slice Ag pg.length cg) := (blk_cell ba.out 1).trans rfl; have hfa := blk_frozen ba.out; have hla := blk_lt ba.out; have TT := Aside0.mk (T4.out.pushPg layS (by decide) ho hb hgr hat); clear ho hb hgr hat))
 clear hsa hfa hla ba hd14 hd34 hgl4
 generalize hwx : wa.setCell ⟨g, 1, none⟩ _ = w5 at TT ⊢
 clear hwx
 obtain ⟨TT1, TT2⟩ := TT.out
 have T5 := Aside0.mk TT1
 have HF5 := Aside0.mk (HF4.out.trans TT2)
 have BN5 := Aside0.mk (blk_fr TT2 T4.out BN4.out (by decide))
 have BD5 := Aside0.mk (blk_fr TT2 T4.out BD4.out (by decide))
 have R15 := Aside0.mk (R9_fr TT2 T4.out (by decide) R14.out)
 have R25 := Aside0.mk (R9_fr TT2 T4.out (by decide) R24.out)
 have R35 := Aside0.mk (R3_fr TT2 T4.out (by decide) R34.out HNE.out.2.1 HNE.out.2.2)
 clear TT TT1 TT2 T4 BN4 BD4 R14 R24 R34 HF4
 go_wp2_with fail
 go_loopg [16] keys.length (fun gg s16 wr => ∃ (kk : Nat) (lk : Bool) (Apk : Option Addr) (cpk : Nat), kk ≤ keys.length ∧ keys.length - kk ≤ gg ∧ s16 = .int .i64 kk ∧ Aside0 (lk = (order || (keys.take kk).any (outB low high has))) ∧ Aside0 (TInv cellsS 138 w0 wr g (.slice Ao1 ks1.length co1) (.slice Apk (pr ++ pairsTo keys vals kk).length cpk) (.slice Ad dp.length cd) lk false ks1 (pr ++ pairsTo keys vals kk) dp) ∧ Aside0 (wr.heap[gN]? = some (.cells #[.bool true, .slice A1 keys.length c1, .slice A2 vals.length c2, .slice A3 kids.length c3] 68 (0, 0))) ∧
   Aside0 (Kd.R Kd.string 9 wr w0.heap.size (fun _ => True) (.slice A1 keys.length c1) keys) ∧ Aside0 (Kd.R Kd.string 9 wr w0.heap.size (fun _ => True) (.slice A2 vals.length c2) vals) ∧ Aside0 (TFr w wr g (.slice Ag pg.length cg) (.slice Ap pr.length cp) (.slice Ad dp.length cd) (.slice Ao1 ks1.length co1) (.slice Apk (pr ++ pairsTo keys vals kk).length cpk) (.slice Ad dp.length cd)))
 case atStart =>
  have e0 : pr ++ pairsTo keys vals 0 = pr := by simp [pairsTo]
  exact ⟨0, order, Ap, cp, Nat.zero_le _, by omega, rfl, ⟨by simp⟩, by rw [e0]; exact T5, BN5, R15, R25, by rw [e0]; exact HF5⟩
 case round =>
  clear T5 BN5 BD5 R15 R25 R35 HF5
  obtain ⟨kk, lk, Apk, cpk, hkk, hgg, rfl, HLKK, TK, BNK, R1K, R2K, HFK⟩ := hrel
  by_cases hlt : kk < keys.length
  ·have hltz : (kk : Int) < (keys.length : Int) := by omega
   have hlv : kk < vals.length := by have := HVL.out; omega
   have hlvz : (kk : Int) < (vals.length : Int) := by omega
   obtain ⟨ad1, rfl⟩ := some_ad R1K.out (by omega)
   obtain ⟨ad2, rfl⟩ := some_ad R2K.out (by omega)
   have hk1 := seen_str R1K.out hlt
   obtain ⟨key, hkey⟩ : ∃ key, keys[kk] = key := ⟨_, rfl⟩
   obtain ⟨val, hval⟩ : ∃ val, vals[kk] = val := ⟨_, rfl⟩
   rw [hkey] at hk1
   have HPAIR := Aside0.mk (show (⟨keys.getD kk ByteArray.empty, vals.getD kk ByteArray.empty⟩ : S140) = ⟨key, val⟩ by
    rw [List.getD_eq_getElem?_getD, List.getD_eq_getElem?_getD, List.getElem?_eq_getElem hlt, List.getElem?_eq_getElem hlv, Option.getD_some, Option.getD_some, hkey, hval])
   have HVAL := Aside0.mk hval
   obtain ⟨prk, hprk⟩ : ∃ z, z = pr ++ pairsTo keys vals kk := ⟨_, rfl⟩
   have HPRK := Aside0.mk hprk
   rw [← hprk] at TK HFK
   have HLQ := Aside0.mk (show prk.length ≤ 1000010 by rw [hprk, List.length_append, pairsTo_len]; have := HLP.out; omega)
   obtain ⟨prn, hprn⟩ : ∃ z, z = prk ++ [(⟨key, val⟩ : S140)] := ⟨_, rfl⟩
   have HKS3 := Aside0.mk hprn
   have HLS := Aside0.mk (show (order || (keys.take (kk + 1)).any (outB low high has)) = (lk || outB low high has key) by
    rw [any_take_succ _ _ _ hlt, hkey, HLKK.out, Bool.or_assoc])
   have hn1 : wr.cell? ⟨gN, 1, none⟩ = some (.slice (some ad1) keys.length c1) := (blk_cell BNK.out 1).trans rfl
   have hn0 : wr.cell? ⟨gN, 0, none⟩ = some (.bool true) := (blk_cell BNK.out 0).trans rfl
   have hs4 : wr.cell? ⟨g, 4, none⟩ = some (.bool lk) := (blk_cell TK.out.bT 4).trans rfl
   have hfs := blk_frozen TK.out.bT
   have hgs := blk_lt TK.out.bT
   clear hkey hval hprk hprn HLKK
   cases hb1 : Op.bytesLess key.toList low.toList with
   | true =>
    go_upto_region 12 with (fail)
    have TK2 := Aside0.mk (set1 (x := true) layS (by decide) TK.out)
    have HFK2 := Aside0.mk (HFK.out.set 4 (.bool true))
    have BNK2 := Aside0.mk (blk_far (p := ⟨g, 4, none⟩) BNK.out (blk_ne BNK.out TK.out.bT (by decide)) (.bool true))
    have R1K2 := Aside0.mk (Kd.R_set R1K.out TK.out.bT (by decide) 4 (.bool true))
    have R2K2 := Aside0.mk (Kd.R_set R2K.out TK.out.bT (by decide) 4 (.bool true))
    clear TK HFK BNK R1K R2K hk1 hn1 hn0 hs4 hfs hgs
    generalize hwx : wr.setCell ⟨g, 4, none⟩ _ = wv at TK2 HFK2 BNK2 R1K2 R2K2 ⊢
    clear hwx
    have TKd := Aside0.mk TK2.out.drew
    have BNd := Aside0.mk (blk_below BNK2.out (Below.refl _ _).drew)
    have R1d := Aside0.mk (Kd.R_below R1K2.out (Below.refl _ _).drew)
    have R2d := Aside0.mk (Kd.R_below R2K2.out (Below.refl _ _).drew)
    have HFd := Aside0.mk (HFK2.out.below (Below.refl _ _).drew)
    clear TK2 BNK2 R1K2 R2K2 HFK2
    refine start_ (n := 17) (S := fun w' => w'.cell? ⟨g, 0, none⟩ = some (.slice Apk prk.length cpk) ∧ w'.cell? ⟨gN, 2, none⟩ = some (.slice (some ad2) vals.length c2) ∧ w'.cell? (ad2.add kk) = some (.string val)) (ds := [16]) #[false, false, false, false, false, false, false, false, false, false, false, false, false, false, false, false, false] (by kernel_rfl) rfl rfl ⟨(blk_cell TKd.out.bT 0).trans rfl, (blk_cell BNd.out 2).trans rfl, (seen_str R2d.out hlv).trans (by rw [HVAL.out])⟩ (fun hHeld => ?_); refine with_tabW spec_l07Walk.tab12 spec_l07Walk.bits12 (fun HT_ HW_ => ?_)
    generalize wv.drew = wd at TKd BNd R1d R2d HFd hHeld ⊢
    refine pure_ (i := 0) (N := some 89) (v := ?_) (a' := ?_) #[true, false, false, false, false, false, false, false, false, false, false, false, false, false, false, false, false] rfl rfl (any_of HT_.out (by kernel_rfl)) (fun _ _ _ h => h) (Or.inl ⟨by rfl, ?_⟩) ?_ ?_
    rotate_left
    ·intro w'
     go_simp
     with_reducible rfl
    rotate_left
    ·simp only [Act.put, List.setIfInBounds_toArray, List.set_cons_zero, List.set_cons_succ, i64_w, i32_w]
     rfl
    refine pure_ (i := 1) (N := some 90) (v := ?_) (a' := ?_) #[true, true, false, false, false, false, false, false, false, false, false, false, false, false, false, false, false] rfl rfl (any_of HT_.out (by kernel_rfl)) (fun _ _ _ h => h) (Or.inl ⟨by rfl, ?_⟩) ?_ ?_
    rotate_left
    ·intro w'
     go_simp
     with_reducible rfl
    rotate_left
    ·simp only [Act.put, List.setIfInBounds_toArray, List.set_cons_zero, List.set_cons_succ, i64_w, i32_w]
     rfl
    refine pure_ (i := 2) (N := some 91) (v := ?_) (a' := ?_) #[true, true, true, false, false, false, false, false, false, false, false, false, false, false, false, false, false] rfl rfl (any_of HT_.out (by kernel_rfl)) (fun _ _ _ h => h) (Or.inl ⟨by rfl, ?_⟩) ?_ ?_
    rotate_left
    ·intro w'
     go_simp
     with_reducible rfl
    rotate_left
    ·simp only [Act.put, List.setIfInBounds_toArray, List.set_cons_zero, List.set_cons_succ, i64_w, i32_w]
     rfl
    refine pure_ (i := 3) (N := some 92) (v := ?_) (a' := ?_) #[true, true, true, true, false, false, false, false, false, false, false, false, false, false, false, false, false] rfl rfl (any_of HT_.out (by kernel_rfl)) (fun _ _ _ h => h) (Or.inl ⟨by rfl, ?_⟩) ?_ ?_
    rotate_left
    ·intro w'
     go_simp
     with_reducible rfl
    rotate_left
    ·simp only [Act.put, List.setIfInBounds_toArray, List.set_cons_zero, List.set_cons_succ, i64_w, i32_w]
     rfl
    refine take_ (i := 4) (N := some 93) (v := ?_) (a' := ?_) #[true, true, true, true, true, false, false, false, false, false, false, false, false, false, false, false, false] rfl rfl (take_ofW HT_.out HW_.out (by kernel_rfl)) (fun _ _ _ h => h) (Or.inl ⟨by rfl, ?_⟩) hHeld ?_ ?_
    rotate_left
    ·rintro w' ⟨s0, s1, s2⟩
     go_simp
     with_reducible rfl
    rotate_left
    ·simp only [Act.put, List.setIfInBounds_toArray, List.set_cons_zero, List.set_cons_succ, i64_w, i32_w]
     rfl
    refine pure_ (i := 5) (N := some 94) (v := ?_) (a' := ?_) #[true, true, true, true, true, true, false, false, false, false, false, false, false, false, false, false, false] rfl rfl (any_of HT_.out (by kernel_rfl)) (fun _ _ _ h => h) (Or.inl ⟨by rfl, ?_⟩) ?_ ?_
    rotate_left
    ·intro w'
     go_simp
     with_reducible rfl
    rotate_left
    ·simp only [Act.put, List.setIfInBounds_toArray, List.set_cons_zero, List.set_cons_succ, i64_w, i32_w]
     rfl
    refine pure_ (i := 6) (N := some 95) (v := ?_) (a' := ?_) #[true, true, true, true, true, true, true, false, false, false, false, false, false, false, false, false, false] rfl rfl (any_of HT_.out (by kernel_rfl)) (fun _ _ _ h => h) (Or.inl ⟨by rfl, ?_⟩) ?_ ?_
    rotate_left
    ·intro w'
     go_simp
     with_reducible rfl
    rotate_left
    ·simp only [Act.put, List.setIfInBounds_toArray, List.set_cons_zero, List.set_cons_succ, i64_w, i32_w]
     rfl
    refine take_ (i := 7) (N := some 96) (v := ?_) (a' := ?_) #[true, true, true, true, true, true, true, true, false, false, false, false, false, false, false, false, false] rfl rfl (take_ofW HT_.out HW_.out (by kernel_rfl)) (fun _ _ _ h => h) (Or.inl ⟨by rfl, ?_⟩) hHeld ?_ ?_
    rotate_left
    ·rintro w' ⟨s0, s1, s2⟩
     go_simp
     with_reducible rfl
    rotate_left
    ·simp only [Act.put, List.setIfInBounds_toArray, List.set_cons_zero, List.set_cons_succ, i64_w, i32_w]
     rfl
    refine pure_ (i := 8) (N := some 97) (v := ?_) (a' := ?_) #[true, true, true, true, true, true, true, true, true, false, false, false, false, false, false, false, false] rfl rfl (any_of HT_.out (by kernel_rfl)) (fun _ _ _ h => h) (Or.inl ⟨by rfl, ?_⟩) ?_ ?_
    rotate_left
    ·intro w'
     go_simp
     with_reducible rfl
    rotate_left
    ·simp only [Act.put, List.setIfInBounds_toArray, List.set_cons_zero, List.set_cons_succ, i64_w, i32_w]
     rfl
    refine pure_ (i := 9) (N := some 98) (v := ?_) (a' := ?_) #[true, true, true, true, true, true, true, true, true, true, false, false, false, false, false, false, false] rfl rfl (any_of HT_.out (by kernel_rfl)) (fun _ _ _ h => h) (Or.inl ⟨by rfl, ?_⟩) ?_ ?_
    rotate_left
    ·intro w'
     go_simp
     with_reducible rfl
    rotate_left
    ·simp only [Act.put, List.setIfInBounds_toArray, List.set_cons_zero, List.set_cons_succ, i64_w, i32_w]
     rfl
    refine take_ (i := 10) (N := some 99) (v := ?_) (a' := ?_) #[true, true, true, true, true, true, true, true, true, true, true, false, false, false, false, false, false] rfl rfl (take_ofW HT_.out HW_.out (by kernel_rfl)) (fun _ _ _ h => h) (Or.inl ⟨by rfl, ?_⟩) hHeld ?_ ?_
    rotate_left
    ·rintro w' ⟨s0, s1, s2⟩
     go_simp
     with_reducible rfl
    rotate_left
    ·simp only [Act.put, List.setIfInBounds_toArray, List.set_cons_zero, List.set_cons_succ, i64_w, i32_w]
     rfl
    refine pure_ (i := 11) (N := some 100) (v := ?_) (a' := ?_) #[true, true, true, true, true, true, true, true, true, true, true, true, false, false, false, false, false] rfl rfl (any_of HT_.out (by kernel_rfl)) (fun _ _ _ h => h) (Or.inl ⟨by rfl, ?_⟩) ?_ ?_
    rotate_left
    ·intro w'
     go_simp
     with_reducible rfl
    rotate_left
    ·simp only [Act.put, List.setIfInBounds_toArray, List.set_cons_zero, List.set_cons_succ, i64_w, i32_w]
     rfl
    refine one_ (i := 12) (N := some 101) #[true, true, true, true, true, true, true, true, true, true, true, true, true, false, false, false, false] rfl rfl (one_of HT_.out (by kernel_rfl)) (by decide) (fun K hK => ?_)
    refine value_ (w1 := ?_) (v := ?_) (by rfl) rfl ?_ ?_
    rotate_left 2
    ·go_simp
     constructor
     ·rfl
     ·rfl
    refine hK.out _ _ ⟨(blk_cell (TKd.out.below (below_alloc (Below.refl _ _) _)).bT 0).trans rfl, (blk_cell (blk_alloc BNd.out _) 2).trans rfl, (seen_str (Kd.R_below R2d.out (below_alloc (Below.refl _ _) _)) hlv).trans (by rw [HVAL.out])⟩ (fun hHeld => ?_)
    clear hK K
    refine norm_ (a' := ?_) ?_ ?_
    rotate_left
    ·show Act.put _ (some 101) _ = _
     simp only [Act.put, List.setIfInBounds_toArray, List.set_cons_zero, List.set_cons_succ, i64_w, i32_w]
     rfl
    refine one_ (i := 13) (N := some 102) #[true, true, true, true, true, true, true, true, true, true, true, true, true, true, false, false, false] rfl rfl (one_of HT_.out (by kernel_rfl)) (by decide) (fun K hK => ?_)
    refine Kd.R_append_step k140 (w0 := w0) w0.heap.size (by rfl) (.tmp 93) (.tmp 101) 80 140 (.agg #[.string ⟨#[]⟩, .string ⟨#[]⟩]) 32 rfl Try.underlying80 info140d rfl (by decide) (by omega) (.slice Apk prk.length cpk) prk (⟨key, val⟩ : S140) [.string key, .string val] (fun _ => True) (fun _ => False) rfl rfl ?aP (fun _ hk => hk.elim) ?aF ?aO ?aB ?aS ?aL ?_
    (case aP => exact k140_mkM _ _ _ _)
    (case aF => exact (fun _ _ => trivial))
    (case aO => exact TKd.out.rp)
    (case aB => exact TKd.out.bel)
    (case aS => exact TKd.out.bel.size)
    (case aL => have := HLQ.out; omega)
    intro va wa ho hb hgr hat
    have ba := Aside0.mk (blk_grown TKd.out.bT hgr (Kd.R_ne TKd.out.rp TKd.out.bT (by decide)))
    have bna := Aside0.mk (blk_grown BNd.out hgr (Kd.R_ne TKd.out.rp BNd.out (by decide)))
    have r2a := Aside0.mk (Kd.R_over' R2d.out (Kd.R_typed TKd.out.rp) (by decide) hgr)
    rw [← HKS3.out] at ho
    obtain ⟨Ao3, co3, eo⟩ := Kd.R_slice ho
    subst eo
    have TT := Aside0.mk (TKd.out.pushPr layS (by decide) ho hb hgr hat)
    clear ho hb hgr hat
    refine hK.out _ _ ⟨(blk_cell ba.out 0).trans rfl, (blk_cell bna.out 2).trans rfl, (seen_str r2a.out hlv).trans (by rw [HVAL.out])⟩ (fun hHeld => ?_)
    clear hK K
    refine norm_ (a' := ?_) ?_ ?_
    rotate_left
    ·show Act.put _ (some 102) _ = _
     simp only [Act.put, List.setIfInBounds_toArray, List.set_cons_zero, List.set_cons_succ, i64_w, i32_w]
     rfl
    refine pure_ (i := 14) (N := some 103) (v := ?_) (a' := ?_) #[true, true, true, true, true, true, true, true, true, true, true, true, true, true, true, false, false] rfl rfl (any_of HT_.out (by kernel_rfl)) (fun _ _ _ h => h) (Or.inl ⟨by rfl, ?_⟩) ?_ ?_
    rotate_left
    ·intro w'
     go_simp
     with_reducible rfl
    rotate_left
    ·simp only [Act.put, List.setIfInBounds_toArray, List.set_cons_zero, List.set_cons_succ, i64_w, i32_w]
     rfl
    refine pure_ (i := 15) (N := some 104) (v := ?_) (a' := ?_) #[true, true, true, true, true, true, true, true, true, true, true, true, true, true, true, true, false] rfl rfl (any_of HT_.out (by kernel_rfl)) (fun _ _ _ h => h) (Or.inl ⟨by rfl, ?_⟩) ?_ ?_
    rotate_left
    ·intro w'
     go_simp
     with_reducible rfl
    rotate_left
    ·simp only [Act.put, List.setIfInBounds_toArray, List.set_cons_zero, List.set_cons_succ, i64_w, i32_w]
     rfl
    refine last_ (i := 16) (N := none) #[true, true, true, true, true, true, true, true, true, true, true, true, true, true, true, true, true] rfl rfl (one_of HT_.out (by kernel_rfl)) (by decide) (fun K hK => ?_)
    have hs1 : wa.cell? ⟨g, 0, none⟩ = some (.slice Apk prk.length cpk) := (blk_cell ba.out 0).trans rfl
    have hf1 := blk_frozen ba.out 0
    refine skip_ (w1 := ?_) (by rfl) rfl ?_ ?_
    rotate_left
    ·go_simp
     rfl
    refine hK.out _ _ ?_
    clear hK K
    refine done_ (done_of HT_.out (by kernel_rfl)) ?_
    clear ba bna r2a hs1 hf1 hHeld
    generalize hwx : wa.setCell ⟨g, 0, none⟩ _ = w7 at TT ⊢
    clear hwx
    obtain ⟨TT1, TT2⟩ := TT.out
    have T7 := Aside0.mk TT1
    have HF7 := Aside0.mk (HFd.out.trans TT2)
    have BN7 := Aside0.mk (blk_fr TT2 TKd.out BNd.out (by decide))
    have R17 := Aside0.mk (R9_fr TT2 TKd.out (by decide) R1d.out)
    have R27 := Aside0.mk (R9_fr TT2 TKd.out (by decide) R2d.out)
    clear TT TT1 TT2 TKd BNd R1d R2d HFd
    go_wp2
    have HW := Aside0.mk (show wrap64 ((kk : Int) + 1) = ((kk + 1 : Nat) : Int) by unfold wrap64; omega)
    have HPN := Aside0.mk (show prn = pr ++ pairsTo keys vals (kk + 1) by rw [pairsTo_succ, ← List.append_assoc, ← HPRK.out, HPAIR.out]; exact HKS3.out)
    go_roundg (keys.length - (kk + 1))
    case measure => omega
    case rel => exact ⟨kk + 1, true, Ao3, co3, by omega, by omega, by first | rfl | exact congrArg (Value.int .i64) HW.out, ⟨by rw [HLS.out]; unfold outB; simp [*]⟩, by rw [← HPN.out]; exact T7, BN7, R17, R27, by rw [← HPN.out]; exact HF7⟩
   | false =>
    cases has with
    | false =>
     go_upto_region 12 with (fail)
     have TK2 := TK
     have HFK2 := HFK
     have BNK2 := BNK
     have R1K2 := R1K
     have R2K2 := R2K
     clear TK HFK BNK R1K R2K hk1 hn1 hn0 hs4 hfs hgs
     generalize hwx : wr = wv at TK2 HFK2 BNK2 R1K2 R2K2 ⊢
     clear hwx
     have TKd := Aside0.mk TK2.out.drew
     have BNd := Aside0.mk (blk_below BNK2.out (Below.refl _ _).drew)
     have R1d := Aside0.mk (Kd.R_below R1K2.out (Below.refl _ _).drew)
     have R2d := Aside0.mk (Kd.R_below R2K2.out (Below.refl _ _).drew)
     have HFd := Aside0.mk (HFK2.out.below (Below.refl _ _).drew)
     clear TK2 BNK2 R1K2 R2K2 HFK2
     refine start_ (n := 17) (S := fun w' => w'.cell? ⟨g, 0, none⟩ = some (.slice Apk prk.length cpk) ∧ w'.cell? ⟨gN, 2, none⟩ = some (.slice (some ad2) vals.length c2) ∧ w'.cell? (ad2.add kk) = some (.string val)) (ds := [16]) #[false, false, false, false, false, false, false, false, false, false, false, false, false, false, false, false, false] (by kernel_rfl) rfl rfl ⟨(blk_cell TKd.out.bT 0).trans rfl, (blk_cell BNd.out 2).trans rfl, (seen_str R2d.out hlv).trans (by rw [HVAL.out])⟩ (fun hHeld => ?_); refine with_tabW spec_l07Walk.tab12 spec_l07Walk.bits12 (fun HT_ HW_ => ?_)
     generalize wv.drew = wd at TKd BNd R1d R2d HFd hHeld ⊢
     refine pure_ (i := 0) (N := some 89) (v := ?_) (a' := ?_) #[true, false, false, false, false, false, false, false, false, false, false, false, false, false, false, false, false] rfl rfl (any_of HT_.out (by kernel_rfl)) (fun _ _ _ h => h) (Or.inl ⟨by rfl, ?_⟩) ?_ ?_
     rotate_left
     ·intro w'
      go_simp
      with_reducible rfl
     rotate_left
     ·simp only [Act.put, List.setIfInBounds_toArray, List.set_cons_zero, List.set_cons_succ, i64_w, i32_w]
      rfl
     refine pure_ (i := 1) (N := some 90) (v := ?_) (a' := ?_) #[true, true, false, false, false, false, false, false, false, false, false, false, false, false, false, false, false] rfl rfl (any_of HT_.out (by kernel_rfl)) (fun _ _ _ h => h) (Or.inl ⟨by rfl, ?_⟩) ?_ ?_
     rotate_left
     ·intro w'
      go_simp
      with_reducible rfl
     rotate_left
     ·simp only [Act.put, List.setIfInBounds_toArray, List.set_cons_zero, List.set_cons_succ, i64_w, i32_w]
      rfl
     refine pure_ (i := 2) (N := some 91) (v := ?_) (a' := ?_) #[true, true, true, false, false, false, false, false, false, false, false, false, false, false, false, false, false] rfl rfl (any_of HT_.out (by kernel_rfl)) (fun _ _ _ h => h) (Or.inl ⟨by rfl, ?_⟩) ?_ ?_
     rotate_left
     ·intro w'
      go_simp
      with_reducible rfl
     rotate_left
     ·simp only [Act.put, List.setIfInBounds_toArray, List.set_cons_zero, List.set_cons_succ, i64_w, i32_w]
      rfl
     refine pure_ (i := 3) (N := some 92) (v := ?_) (a' := ?_) #[true, true, true, true, false, false, false, false, false, false, false, false, false, false, false, false, false] rfl rfl (any_of HT_.out (by kernel_rfl)) (fun _ _ _ h => h) (Or.inl ⟨by rfl, ?_⟩) ?_ ?_
     rotate_left
     ·intro w'
      go_simp
      with_reducible rfl
     rotate_left
     ·simp only [Act.put, List.setIfInBounds_toArray, List.set_cons_zero, List.set_cons_succ, i64_w, i32_w]
      rfl
     refine take_ (i := 4) (N := some 93) (v := ?_) (a' := ?_) #[true, true, true, true, true, false, false, false, false, false, false, false, false, false, false, false, false] rfl rfl (take_ofW HT_.out HW_.out (by kernel_rfl)) (fun _ _ _ h => h) (Or.inl ⟨by rfl, ?_⟩) hHeld ?_ ?_
     rotate_left
     ·rintro w' ⟨s0, s1, s2⟩
      go_simp
      with_reducible rfl
     rotate_left
     ·simp only [Act.put, List.setIfInBounds_toArray, List.set_cons_zero, List.set_cons_succ, i64_w, i32_w]
      rfl
     refine pure_ (i := 5) (N := some 94) (v := ?_) (a' := ?_) #[true, true, true, true, true, true, false, false, false, false, false, false, false, false, false, false, false] rfl rfl (any_of HT_.out (by kernel_rfl)) (fun _ _ _ h => h) (Or.inl ⟨by rfl, ?_⟩) ?_ ?_
     rotate_left
     ·intro w'
      go_simp
      with_reducible rfl
     rotate_left
     ·simp only [Act.put, List.setIfInBounds_toArray, List.set_cons_zero, List.set_cons_succ, i64_w, i32_w]
      rfl
     refine pure_ (i := 6) (N := some 95) (v := ?_) (a' := ?_) #[true, true, true, true, true, true, true, false, false, false, false, false, false, false, false, false, false] rfl rfl (any_of HT_.out (by kernel_rfl)) (fun _ _ _ h => h) (Or.inl ⟨by rfl, ?_⟩) ?_ ?_
     rotate_left
     ·intro w'
      go_simp
      with_reducible rfl
     rotate_left
     ·simp only [Act.put, List.setIfInBounds_toArray, List.set_cons_zero, List.set_cons_succ, i64_w, i32_w]
      rfl
     refine take_ (i := 7) (N := some 96) (v := ?_) (a' := ?_) #[true, true, true, true, true, true, true, true, false, false, false, false, false, false, false, false, false] rfl rfl (take_ofW HT_.out HW_.out (by kernel_rfl)) (fun _ _ _ h => h) (Or.inl ⟨by rfl, ?_⟩) hHeld ?_ ?_
     rotate_left
     ·rintro w' ⟨s0, s1, s2⟩
      go_simp
      with_reducible rfl
     rotate_left
     ·simp only [Act.put, List.setIfInBounds_toArray, List.set_cons_zero, List.set_cons_succ, i64_w, i32_w]
      rfl
     refine pure_ (i := 8) (N := some 97) (v := ?_) (a' := ?_) #[true, true, true, true, true, true, true, true, true, false, false, false, false, false, false, false, false] rfl rfl (any_of HT_.out (by kernel_rfl)) (fun _ _ _ h => h) (Or.inl ⟨by rfl, ?_⟩) ?_ ?_
     rotate_left
     ·intro w'
      go_simp
      with_reducible rfl
     rotate_left
     ·simp only [Act.put, List.setIfInBounds_toArray, List.set_cons_zero, List.set_cons_succ, i64_w, i32_w]
      rfl
     refine pure_ (i := 9) (N := some 98) (v := ?_) (a' := ?_) #[true, true, true, true, true, true, true, true, true, true, false, false, false, false, false, false, false] rfl rfl (any_of HT_.out (by kernel_rfl)) (fun _ _ _ h => h) (Or.inl ⟨by rfl, ?_⟩) ?_ ?_
     rotate_left
     ·intro w'
      go_simp
      with_reducible rfl
     rotate_left
     ·simp only [Act.put, List.setIfInBounds_toArray, List.set_cons_zero, List.set_cons_succ, i64_w, i32_w]
      rfl
     refine take_ (i := 10) (N := some 99) (v := ?_) (a' := ?_) #[true, true, true, true, true, true, true, true, true, true, true, false, false, false, false, false, false] rfl rfl (take_ofW HT_.out HW_.out (by kernel_rfl)) (fun _ _ _ h => h) (Or.inl ⟨by rfl, ?_⟩) hHeld ?_ ?_
     rotate_left
     ·rintro w' ⟨s0, s1, s2⟩
      go_simp
      with_reducible rfl
     rotate_left
     ·simp only [Act.put, List.setIfInBounds_toArray, List.set_cons_zero, List.set_cons_succ, i64_w, i32_w]
      rfl
     refine pure_ (i := 11) (N := some 100) (v := ?_) (a' := ?_) #[true, true, true, true, true, true, true, true, true, true, true, true, false, false, false, false, false] rfl rfl (any_of HT_.out (by kernel_rfl)) (fun _ _ _ h => h) (Or.inl ⟨by rfl, ?_⟩) ?_ ?_
     rotate_left
     ·intro w'
      go_simp
      with_reducible rfl
     rotate_left
     ·simp only [Act.put, List.setIfInBounds_toArray, List.set_cons_zero, List.set_cons_succ, i64_w, i32_w]
      rfl
     refine one_ (i := 12) (N := some 101) #[true, true, true, true, true, true, true, true, true, true, true, true, true, false, false, false, false] rfl rfl (one_of HT_.out (by kernel_rfl)) (by decide) (fun K hK => ?_)
     refine value_ (w1 := ?_) (v := ?_) (by rfl) rfl ?_ ?_
     rotate_left 2
     ·go_simp
      constructor
      ·rfl
      ·rfl
     refine hK.out _ _ ⟨(blk_cell (TKd.out.below (below_alloc (Below.refl _ _) _)).bT 0).trans rfl, (blk_cell (blk_alloc BNd.out _) 2).trans rfl, (seen_str (Kd.R_below R2d.out (below_alloc (Below.refl _ _) _)) hlv).trans (by rw [HVAL.out])⟩ (fun hHeld => ?_)
     clear hK K
     refine norm_ (a' := ?_) ?_ ?_
     rotate_left
     ·show Act.put _ (some 101) _ = _
      simp only [Act.put, List.setIfInBounds_toArray, List.set_cons_zero, List.set_cons_succ, i64_w, i32_w]
      rfl
     refine one_ (i := 13) (N := some 102) #[true, true, true, true, true, true, true, true, true, true, true, true, true, true, false, false, false] rfl rfl (one_of HT_.out (by kernel_rfl)) (by decide) (fun K hK => ?_)
     refine Kd.R_append_step k140 (w0 := w0) w0.heap.size (by rfl) (.tmp 93) (.tmp 101) 80 140 (.agg #[.string ⟨#[]⟩, .string ⟨#[]⟩]) 32 rfl Try.underlying80 info140d rfl (by decide) (by omega) (.slice Apk prk.length cpk) prk (⟨key, val⟩ : S140) [.string key, .string val] (fun _ => True) (fun _ => False) rfl rfl ?aP (fun _ hk => hk.elim) ?aF ?aO ?aB ?aS ?aL ?_
     (case aP => exact k140_mkM _ _ _ _)
     (case aF => exact (fun _ _ => trivial))
     (case aO => exact TKd.out.rp)
     (case aB => exact TKd.out.bel)
     (case aS => exact TKd.out.bel.size)
     (case aL => have := HLQ.out; omega)
     intro va wa ho hb hgr hat
     have ba := Aside0.mk (blk_grown TKd.out.bT hgr (Kd.R_ne TKd.out.rp TKd.out.bT (by decide)))
     have bna := Aside0.mk (blk_grown BNd.out hgr (Kd.R_ne TKd.out.rp BNd.out (by decide)))
     have r2a := Aside0.mk (Kd.R_over' R2d.out (Kd.R_typed TKd.out.rp) (by decide) hgr)
     rw [← HKS3.out] at ho
     obtain ⟨Ao3, co3, eo⟩ := Kd.R_slice ho
     subst eo
     have TT := Aside0.mk (TKd.out.pushPr layS (by decide) ho hb hgr hat)
     clear ho hb hgr hat
     refine hK.out _ _ ⟨(blk_cell ba.out 0).trans rfl, (blk_cell bna.out 2).trans rfl, (seen_str r2a.out hlv).trans (by rw [HVAL.out])⟩ (fun hHeld => ?_)
     clear hK K
     refine norm_ (a' := ?_) ?_ ?_
     rotate_left
     ·show Act.put _ (some 102) _ = _
      simp only [Act.put, List.setIfInBounds_toArray, List.set_cons_zero, List.set_cons_succ, i64_w, i32_w]
      rfl
     refine pure_ (i := 14) (N := some 103) (v := ?_) (a' := ?_) #[true, true, true, true, true, true, true, true, true, true, true, true, true, true, true, false, false] rfl rfl (any_of HT_.out (by kernel_rfl)) (fun _ _ _ h => h) (Or.inl ⟨by rfl, ?_⟩) ?_ ?_
     rotate_left
     ·intro w'
      go_simp
      with_reducible rfl
     rotate_left
     ·simp only [Act.put, List.setIfInBounds_toArray, List.set_cons_zero, List.set_cons_succ, i64_w, i32_w]
      rfl
     refine pure_ (i := 15) (N := some 104) (v := ?_) (a' := ?_) #[true, true, true, true, true, true, true, true, true, true, true, true, true, true, true, true, false] rfl rfl (any_of HT_.out (by kernel_rfl)) (fun _ _ _ h => h) (Or.inl ⟨by rfl, ?_⟩) ?_ ?_
     rotate_left
     ·intro w'
      go_simp
      with_reducible rfl
     rotate_left
     ·simp only [Act.put, List.setIfInBounds_toArray, List.set_cons_zero, List.set_cons_succ, i64_w, i32_w]
      rfl
     refine last_ (i := 16) (N := none) #[true, true, true, true, true, true, true, true, true, true, true, true, true, true, true, true, true] rfl rfl (one_of HT_.out (by kernel_rfl)) (by decide) (fun K hK => ?_)
     have hs1 : wa.cell? ⟨g, 0, none⟩ = some (.slice Apk prk.length cpk) := (blk_cell ba.out 0).trans rfl
     have hf1 := blk_frozen ba.out 0
     refine skip_ (w1 := ?_) (by rfl) rfl ?_ ?_
     rotate_left
     ·go_simp
      rfl
     refine hK.out _ _ ?_
     clear hK K
     refine done_ (done_of HT_.out (by kernel_rfl)) ?_
     clear ba bna r2a hs1 hf1 hHeld
     generalize hwx : wa.setCell ⟨g, 0, none⟩ _ = w7 at TT ⊢
     clear hwx
     obtain ⟨TT1, TT2⟩ := TT.out
     have T7 := Aside0.mk TT1
     have HF7 := Aside0.mk (HFd.out.trans TT2)
     have BN7 := Aside0.mk (blk_fr TT2 TKd.out BNd.out (by decide))
     have R17 := Aside0.mk (R9_fr TT2 TKd.out (by decide) R1d.out)
     have R27 := Aside0.mk (R9_fr TT2 TKd.out (by decide) R2d.out)
     clear TT TT1 TT2 TKd BNd R1d R2d HFd
     go_wp2
     have HW := Aside0.mk (show wrap64 ((kk : Int) + 1) = ((kk + 1 : Nat) : Int) by unfold wrap64; omega)
     have HPN := Aside0.mk (show prn = pr ++ pairsTo keys vals (kk + 1) by rw [pairsTo_succ, ← List.append_assoc, ← HPRK.out, HPAIR.out]; exact HKS3.out)
     go_roundg (keys.length - (kk + 1))
     case measure => omega
     case rel => exact ⟨kk + 1, lk, Ao3, co3, by omega, by omega, by first | rfl | exact congrArg (Value.int .i64) HW.out, ⟨by rw [HLS.out]; unfold outB; simp [*]⟩, by rw [← HPN.out]; exact T7, BN7, R17, R27, by rw [← HPN.out]; exact HF7⟩
    | true =>
     cases hb2 : Op.bytesLess key.toList high.toList with
     | true =>
      go_upto_region 12 with (fail)
      have TK2 := TK
      have HFK2 := HFK
      have BNK2 := BNK
      have R1K2 := R1K
      have R2K2 := R2K
      clear TK HFK BNK R1K R2K hk1 hn1 hn0 hs4 hfs hgs
      generalize hwx : wr = wv at TK2 HFK2 BNK2 R1K2 R2K2 ⊢
      clear hwx
      have TKd := Aside0.mk TK2.out.drew
      have BNd := Aside0.mk (blk_below BNK2.out (Below.refl _ _).drew)
      have R1d := Aside0.mk (Kd.R_below R1K2.out (Below.refl _ _).drew)
      have R2d := Aside0.mk (Kd.R_below R2K2.out (Below.refl _ _).drew)
      have HFd := Aside0.mk (HFK2.out.below (Below.refl _ _).drew)
      clear TK2 BNK2 R1K2 R2K2 HFK2
      refine start_ (n := 17) (S := fun w' => w'.cell? ⟨g, 0, none⟩ = some (.slice Apk prk.length cpk) ∧ w'.cell? ⟨gN, 2, none⟩ = some (.slice (some ad2) vals.length c2) ∧ w'.cell? (ad2.add kk) = some (.string val)) (ds := [16]) #[false, false, false, false, false, false, false, false, false, false, false, false, false, false, false, false, false] (by kernel_rfl) rfl rfl ⟨(blk_cell TKd.out.bT 0).trans rfl, (blk_cell BNd.out 2).trans rfl, (seen_str R2d.out hlv).trans (by rw [HVAL.out])⟩ (fun hHeld => ?_); refine with_tabW spec_l07Walk.tab12 spec_l07Walk.bits12 (fun HT_ HW_ => ?_)
      generalize wv.drew = wd at TKd BNd R1d R2d HFd hHeld ⊢
      refine pure_ (i := 0) (N := some 89) (v := ?_) (a' := ?_) #[true, false, false, false, false, false, false, false, false, false, false, false, false, false, false, false, false] rfl rfl (any_of HT_.out (by kernel_rfl)) (fun _ _ _ h => h) (Or.inl ⟨by rfl, ?_⟩) ?_ ?_
      rotate_left
      ·intro w'
       go_simp
       with_reducible rfl
      rotate_left
      ·simp only [Act.put, List.setIfInBounds_toArray, List.set_cons_zero, List.set_cons_succ, i64_w, i32_w]
       rfl
      refine pure_ (i := 1) (N := some 90) (v := ?_) (a' := ?_) #[true, true, false, false, false, false, false, false, false, false, false, false, false, false, false, false, false] rfl rfl (any_of HT_.out (by kernel_rfl)) (fun _ _ _ h => h) (Or.inl ⟨by rfl, ?_⟩) ?_ ?_
      rotate_left
      ·intro w'
       go_simp
       with_reducible rfl
      rotate_left
      ·simp only [Act.put, List.setIfInBounds_toArray, List.set_cons_zero, List.set_cons_succ, i64_w, i32_w]
       rfl
      refine pure_ (i := 2) (N := some 91) (v := ?_) (a' := ?_) #[true, true, true, false, false, false, false, false, false, false, false, false, false, false, false, false, false] rfl rfl (any_of HT_.out (by kernel_rfl)) (fun _ _ _ h => h) (Or.inl ⟨by rfl, ?_⟩) ?_ ?_
      rotate_left
      ·intro w'
       go_simp
       with_reducible rfl
      rotate_left
      ·simp only [Act.put, List.setIfInBounds_toArray, List.set_cons_zero, List.set_cons_succ, i64_w, i32_w]
       rfl
      refine pure_ (i := 3) (N := some 92) (v := ?_) (a' := ?_) #[true, true, true, true, false, false, false, false, false, false, false, false, false, false, false, false, false] rfl rfl (any_of HT_.out (by kernel_rfl)) (fun _ _ _ h => h) (Or.inl ⟨by rfl, ?_⟩) ?_ ?_
      rotate_left
      ·intro w'
       go_simp
       with_reducible rfl
      rotate_left
      ·simp only [Act.put, List.setIfInBounds_toArray, List.set_cons_zero, List.set_cons_succ, i64_w, i32_w]
       rfl
      refine take_ (i := 4) (N := some 93) (v := ?_) (a' := ?_) #[true, true, true, true, true, false, false, false, false, false, false, false, false, false, false, false, false] rfl rfl (take_ofW HT_.out HW_.out (by kernel_rfl)) (fun _ _ _ h => h) (Or.inl ⟨by rfl, ?_⟩) hHeld ?_ ?_
      rotate_left
      ·rintro w' ⟨s0, s1, s2⟩
       go_simp
       with_reducible rfl
      rotate_left
      ·simp only [Act.put, List.setIfInBounds_toArray, List.set_cons_zero, List.set_cons_succ, i64_w, i32_w]
       rfl
      refine pure_ (i := 5) (N := some 94) (v := ?_) (a' := ?_) #[true, true, true, true, true, true, false, false, false, false, false, false, false, false, false, false, false] rfl rfl (any_of HT_.out (by kernel_rfl)) (fun _ _ _ h => h) (Or.inl ⟨by rfl, ?_⟩) ?_ ?_
      rotate_left
      ·intro w'
       go_simp
       with_reducible rfl
      rotate_left
      ·simp only [Act.put, List.setIfInBounds_toArray, List.set_cons_zero, List.set_cons_succ, i64_w, i32_w]
       rfl
      refine pure_ (i := 6) (N := some 95) (v := ?_) (a' := ?_) #[true, true, true, true, true, true, true, false, false, false, false, false, false, false, false, false, false] rfl rfl (any_of HT_.out (by kernel_rfl)) (fun _ _ _ h => h) (Or.inl ⟨by rfl, ?_⟩) ?_ ?_
      rotate_left
      ·intro w'
       go_simp
       with_reducible rfl
      rotate_left
      ·simp only [Act.put, List.setIfInBounds_toArray, List.set_cons_zero, List.set_cons_succ, i64_w, i32_w]
       rfl
      refine take_ (i := 7) (N := some 96) (v := ?_) (a' := ?_) #[true, true, true, true, true, true, true, true, false, false, false, false, false, false, false, false, false] rfl rfl (take_ofW HT_.out HW_.out (by kernel_rfl)) (fun _ _ _ h => h) (Or.inl ⟨by rfl, ?_⟩) hHeld ?_ ?_
      rotate_left
      ·rintro w' ⟨s0, s1, s2⟩
       go_simp
       with_reducible rfl
      rotate_left
      ·simp only [Act.put, List.setIfInBounds_toArray, List.set_cons_zero, List.set_cons_succ, i64_w, i32_w]
       rfl
      refine pure_ (i := 8) (N := some 97) (v := ?_) (a' := ?_) #[true, true, true, true, true, true, true, true, true, false, false, false, false, false, false, false, false] rfl rfl (any_of HT_.out (by kernel_rfl)) (fun _ _ _ h => h) (Or.inl ⟨by rfl, ?_⟩) ?_ ?_
      rotate_left
      ·intro w'
       go_simp
       with_reducible rfl
      rotate_left
      ·simp only [Act.put, List.setIfInBounds_toArray, List.set_cons_zero, List.set_cons_succ, i64_w, i32_w]
       rfl
      refine pure_ (i := 9) (N := some 98) (v := ?_) (a' := ?_) #[true, true, true, true, true, true, true, true, true, true, false, false, false, false, false, false, false] rfl rfl (any_of HT_.out (by kernel_rfl)) (fun _ _ _ h => h) (Or.inl ⟨by rfl, ?_⟩) ?_ ?_
      rotate_left
      ·intro w'
       go_simp
       with_reducible rfl
      rotate_left
      ·simp only [Act.put, List.setIfInBounds_toArray, List.set_cons_zero, List.set_cons_succ, i64_w, i32_w]
       rfl
      refine take_ (i := 10) (N := some 99) (v := ?_) (a' := ?_) #[true, true, true, true, true, true, true, true, true, true, true, false, false, false, false, false, false] rfl rfl (take_ofW HT_.out HW_.out (by kernel_rfl)) (fun _ _ _ h => h) (Or.inl ⟨by rfl, ?_⟩) hHeld ?_ ?_
      rotate_left
      ·rintro w' ⟨s0, s1, s2⟩
       go_simp
       with_reducible rfl
      rotate_left
      ·simp only [Act.put, List.setIfInBounds_toArray, List.set_cons_zero, List.set_cons_succ, i64_w, i32_w]
       rfl
      refine pure_ (i := 11) (N := some 100) (v := ?_) (a' := ?_) #[true, true, true, true, true, true, true, true, true, true, true, true, false, false, false, false, false] rfl rfl (any_of HT_.out (by kernel_rfl)) (fun _ _ _ h => h) (Or.inl ⟨by rfl, ?_⟩) ?_ ?_
      rotate_left
      ·intro w'
       go_simp
       with_reducible rfl
      rotate_left
      ·simp only [Act.put, List.setIfInBounds_toArray, List.set_cons_zero, List.set_cons_succ, i64_w, i32_w]
       rfl
      refine one_ (i := 12) (N := some 101) #[true, true, true, true, true, true, true, true, true, true, true, true, true, false, false, false, false] rfl rfl (one_of HT_.out (by kernel_rfl)) (by decide) (fun K hK => ?_)
      refine value_ (w1 := ?_) (v := ?_) (by rfl) rfl ?_ ?_
      rotate_left 2
      ·go_simp
       constructor
       ·rfl
       ·rfl
      refine hK.out _ _ ⟨(blk_cell (TKd.out.below (below_alloc (Below.refl _ _) _)).bT 0).trans rfl, (blk_cell (blk_alloc BNd.out _) 2).trans rfl, (seen_str (Kd.R_below R2d.out (below_alloc (Below.refl _ _) _)) hlv).trans (by rw [HVAL.out])⟩ (fun hHeld => ?_)
      clear hK K
      refine norm_ (a' := ?_) ?_ ?_
      rotate_left
      ·show Act.put _ (some 101) _ = _
       simp only [Act.put, List.setIfInBounds_toArray, List.set_cons_zero, List.set_cons_succ, i64_w, i32_w]
       rfl
      refine one_ (i := 13) (N := some 102) #[true, true, true, true, true, true, true, true, true, true, true, true, true, true, false, false, false] rfl rfl (one_of HT_.out (by kernel_rfl)) (by decide) (fun K hK => ?_)
      refine Kd.R_append_step k140 (w0 := w0) w0.heap.size (by rfl) (.tmp 93) (.tmp 101) 80 140 (.agg #[.string ⟨#[]⟩, .string ⟨#[]⟩]) 32 rfl Try.underlying80 info140d rfl (by decide) (by omega) (.slice Apk prk.length cpk) prk (⟨key, val⟩ : S140) [.string key, .string val] (fun _ => True) (fun _ => False) rfl rfl ?aP (fun _ hk => hk.elim) ?aF ?aO ?aB ?aS ?aL ?_
      (case aP => exact k140_mkM _ _ _ _)
      (case aF => exact (fun _ _ => trivial))
      (case aO => exact TKd.out.rp)
      (case aB => exact TKd.out.bel)
      (case aS => exact TKd.out.bel.size)
      (case aL => have := HLQ.out; omega)
      intro va wa ho hb hgr hat
      have ba := Aside0.mk (blk_grown TKd.out.bT hgr (Kd.R_ne TKd.out.rp TKd.out.bT (by decide)))
      have bna := Aside0.mk (blk_grown BNd.out hgr (Kd.R_ne TKd.out.rp BNd.out (by decide)))
      have r2a := Aside0.mk (Kd.R_over' R2d.out (Kd.R_typed TKd.out.rp) (by decide) hgr)
      rw [← HKS3.out] at ho
      obtain ⟨Ao3, co3, eo⟩ := Kd.R_slice ho
      subst eo
      have TT := Aside0.mk (TKd.out.pushPr layS (by decide) ho hb hgr hat)
      clear ho hb hgr hat
      refine hK.out _ _ ⟨(blk_cell ba.out 0).trans rfl, (blk_cell bna.out 2).trans rfl, (seen_str r2a.out hlv).trans (by rw [HVAL.out])⟩ (fun hHeld => ?_)
      clear hK K
      refine norm_ (a' := ?_) ?_ ?_
      rotate_left
      ·show Act.put _ (some 102) _ = _
       simp only [Act.put, List.setIfInBounds_toArray, List.set_cons_zero, List.set_cons_succ, i64_w, i32_w]
       rfl
      refine pure_ (i := 14) (N := some 103) (v := ?_) (a' := ?_) #[true, true, true, true, true, true, true, true, true, true, true, true, true, true, true, false, false] rfl rfl (any_of HT_.out (by kernel_rfl)) (fun _ _ _ h => h) (Or.inl ⟨by rfl, ?_⟩) ?_ ?_
      rotate_left
      ·intro w'
       go_simp
       with_reducible rfl
      rotate_left
      ·simp only [Act.put, List.setIfInBounds_toArray, List.set_cons_zero, List.set_cons_succ, i64_w, i32_w]
       rfl
      refine pure_ (i := 15) (N := some 104) (v := ?_) (a' := ?_) #[true, true, true, true, true, true, true, true, true, true, true, true, true, true, true, true, false] rfl rfl (any_of HT_.out (by kernel_rfl)) (fun _ _ _ h => h) (Or.inl ⟨by rfl, ?_⟩) ?_ ?_
      rotate_left
      ·intro w'
       go_simp
       with_reducible rfl
      rotate_left
      ·simp only [Act.put, List.setIfInBounds_toArray, List.set_cons_zero, List.set_cons_succ, i64_w, i32_w]
       rfl
      refine last_ (i := 16) (N := none) #[true, true, true, true, true, true, true, true, true, true, true, true, true, true, true, true, true] rfl rfl (one_of HT_.out (by kernel_rfl)) (by decide) (fun K hK => ?_)
      have hs1 : wa.cell? ⟨g, 0, none⟩ = some (.slice Apk prk.length cpk) := (blk_cell ba.out 0).trans rfl
      have hf1 := blk_frozen ba.out 0
      refine skip_ (w1 := ?_) (by rfl) rfl ?_ ?_
      rotate_left
      ·go_simp
       rfl
      refine hK.out _ _ ?_
      clear hK K
      refine done_ (done_of HT_.out (by kernel_rfl)) ?_
      clear ba bna r2a hs1 hf1 hHeld
      generalize hwx : wa.setCell ⟨g, 0, none⟩ _ = w7 at TT ⊢
      clear hwx
      obtain ⟨TT1, TT2⟩ := TT.out
      have T7 := Aside0.mk TT1
      have HF7 := Aside0.mk (HFd.out.trans TT2)
      have BN7 := Aside0.mk (blk_fr TT2 TKd.out BNd.out (by decide))
      have R17 := Aside0.mk (R9_fr TT2 TKd.out (by decide) R1d.out)
      have R27 := Aside0.mk (R9_fr TT2 TKd.out (by decide) R2d.out)
      clear TT TT1 TT2 TKd BNd R1d R2d HFd
      go_wp2
      have HW := Aside0.mk (show wrap64 ((kk : Int) + 1) = ((kk + 1 : Nat) : Int) by unfold wrap64; omega)
      have HPN := Aside0.mk (show prn = pr ++ pairsTo keys vals (kk + 1) by rw [pairsTo_succ, ← List.append_assoc, ← HPRK.out, HPAIR.out]; exact HKS3.out)
      go_roundg (keys.length - (kk + 1))
      case measure => omega
      case rel => exact ⟨kk + 1, lk, Ao3, co3, by omega, by omega, by first | rfl | exact congrArg (Value.int .i64) HW.out, ⟨by rw [HLS.out]; unfold outB; simp [*]⟩, by rw [← HPN.out]; exact T7, BN7, R17, R27, by rw [← HPN.out]; exact HF7⟩
     | false =>
      go_upto_region 12 with (fail)
      have TK2 := Aside0.mk (set1 (x := true) layS (by decide) TK.out)
      have HFK2 := Aside0.mk (HFK.out.set 4 (.bool true))
      have BNK2 := Aside0.mk (blk_far (p := ⟨g, 4, none⟩) BNK.out (blk_ne BNK.out TK.out.bT (by decide)) (.bool true))
      have R1K2 := Aside0.mk (Kd.R_set R1K.out TK.out.bT (by decide) 4 (.bool true))
      have R2K2 := Aside0.mk (Kd.R_set R2K.out TK.out.bT (by decide) 4 (.bool true))
      clear TK HFK BNK R1K R2K hk1 hn1 hn0 hs4 hfs hgs
      generalize hwx : wr.setCell ⟨g, 4, none⟩ _ = wv at TK2 HFK2 BNK2 R1K2 R2K2 ⊢
      clear hwx
      have TKd := Aside0.mk TK2.out.drew
      have BNd := Aside0.mk (blk_below BNK2.out (Below.refl _ _).drew)
      have R1d := Aside0.mk (Kd.R_below R1K2.out (Below.refl _ _).drew)
      have R2d := Aside0.mk (Kd.R_below R2K2.out (Below.refl _ _).drew)
      have HFd := Aside0.mk (HFK2.out.below (Below.refl _ _).drew)
      clear TK2 BNK2 R1K2 R2K2 HFK2
      refine start_ (n := 17) (S := fun w' => w'.cell? ⟨g, 0, none⟩ = some (.slice Apk prk.length cpk) ∧ w'.cell? ⟨gN, 2, none⟩ = some (.slice (some ad2) vals.length c2) ∧ w'.cell? (ad2.add kk) = some (.string val)) (ds := [16]) #[false, false, false, false, false, false, false, false, false, false, false, false, false, false, false, false, false] (by kernel_rfl) rfl rfl ⟨(blk_cell TKd.out.bT 0).trans rfl, (blk_cell BNd.out 2).trans rfl, (seen_str R2d.out hlv).trans (by rw [HVAL.out])⟩ (fun hHeld => ?_); refine with_tabW spec_l07Walk.tab12 spec_l07Walk.bits12 (fun HT_ HW_ => ?_)
      generalize wv.drew = wd at TKd BNd R1d R2d HFd hHeld ⊢
      refine pure_ (i := 0) (N := some 89) (v := ?_) (a' := ?_) #[true, false, false, false, false, false, false, false, false, false, false, false, false, false, false, false, false] rfl rfl (any_of HT_.out (by kernel_rfl)) (fun _ _ _ h => h) (Or.inl ⟨by rfl, ?_⟩) ?_ ?_
      rotate_left
      ·intro w'
       go_simp
       with_reducible rfl
      rotate_left
      ·simp only [Act.put, List.setIfInBounds_toArray, List.set_cons_zero, List.set_cons_succ, i64_w, i32_w]
       rfl
      refine pure_ (i := 1) (N := some 90) (v := ?_) (a' := ?_) #[true, true, false, false, false, false, false, false, false, false, false, false, false, false, false, false, false] rfl rfl (any_of HT_.out (by kernel_rfl)) (fun _ _ _ h => h) (Or.inl ⟨by rfl, ?_⟩) ?_ ?_
      rotate_left
      ·intro w'
       go_simp
       with_reducible rfl
      rotate_left
      ·simp only [Act.put, List.setIfInBounds_toArray, List.set_cons_zero, List.set_cons_succ, i64_w, i32_w]
       rfl
      refine pure_ (i := 2) (N := some 91) (v := ?_) (a' := ?_) #[true, true, true, false, false, false, false, false, false, false, false, false, false, false, false, false, false] rfl rfl (any_of HT_.out (by kernel_rfl)) (fun _ _ _ h => h) (Or.inl ⟨by rfl, ?_⟩) ?_ ?_
      rotate_left
      ·intro w'
       go_simp
       with_reducible rfl
      rotate_left
      ·simp only [Act.put, List.setIfInBounds_toArray, List.set_cons_zero, List.set_cons_succ, i64_w, i32_w]
       rfl
      refine pure_ (i := 3) (N := some 92) (v := ?_) (a' := ?_) #[true, true, true, true, false, false, false, false, false, false, false, false, false, false, false, false, false] rfl rfl (any_of HT_.out (by kernel_rfl)) (fun _ _ _ h => h) (Or.inl ⟨by rfl, ?_⟩) ?_ ?_
      rotate_left
      ·intro w'
       go_simp
       with_reducible rfl
      rotate_left
      ·simp only [Act.put, List.setIfInBounds_toArray, List.set_cons_zero, List.set_cons_succ, i64_w, i32_w]
       rfl
      refine take_ (i := 4) (N := some 93) (v := ?_) (a' := ?_) #[true, true, true, true, true, false, false, false, false, false, false, false, false, false, false, false, false] rfl rfl (take_ofW HT_.out HW_.out (by kernel_rfl)) (fun _ _ _ h => h) (Or.inl ⟨by rfl, ?_⟩) hHeld ?_ ?_
      rotate_left
      ·rintro w' ⟨s0, s1, s2⟩
       go_simp
       with_reducible rfl
      rotate_left
      ·simp only [Act.put, List.setIfInBounds_toArray, List.set_cons_zero, List.set_cons_succ, i64_w, i32_w]
       rfl
      refine pure_ (i := 5) (N := some 94) (v := ?_) (a' := ?_) #[true, true, true, true, true, true, false, false, false, false, false, false, false, false, false, false, false] rfl rfl (any_of HT_.out (by kernel_rfl)) (fun _ _ _ h => h) (Or.inl ⟨by rfl, ?_⟩) ?_ ?_
      rotate_left
      ·intro w'
       go_simp
       with_reducible rfl
      rotate_left
      ·simp only [Act.put, List.setIfInBounds_toArray, List.set_cons_zero, List.set_cons_succ, i64_w, i32_w]
       rfl
      refine pure_ (i := 6) (N := some 95) (v := ?_) (a' := ?_) #[true, true, true, true, true, true, true, false, false, false, false, false, false, false, false, false, false] rfl rfl (any_of HT_.out (by kernel_rfl)) (fun _ _ _ h => h) (Or.inl ⟨by rfl, ?_⟩) ?_ ?_
      rotate_left
      ·intro w'
       go_simp
       with_reducible rfl
      rotate_left
      ·simp only [Act.put, List.setIfInBounds_toArray, List.set_cons_zero, List.set_cons_succ, i64_w, i32_w]
       rfl
      refine take_ (i := 7) (N := some 96) (v := ?_) (a' := ?_) #[true, true, true, true, true, true, true, true, false, false, false, false, false, false, false, false, false] rfl rfl (take_ofW HT_.out HW_.out (by kernel_rfl)) (fun _ _ _ h => h) (Or.inl ⟨by rfl, ?_⟩) hHeld ?_ ?_
      rotate_left
      ·rintro w' ⟨s0, s1, s2⟩
       go_simp
       with_reducible rfl
      rotate_left
      ·simp only [Act.put, List.setIfInBounds_toArray, List.set_cons_zero, List.set_cons_succ, i64_w, i32_w]
       rfl
      refine pure_ (i := 8) (N := some 97) (v := ?_) (a' := ?_) #[true, true, true, true, true, true, true, true, true, false, false, false, false, false, false, false, false] rfl rfl (any_of HT_.out (by kernel_rfl)) (fun _ _ _ h => h) (Or.inl ⟨by rfl, ?_⟩) ?_ ?_
      rotate_left
      ·intro w'
       go_simp
       with_reducible rfl
      rotate_left
      ·simp only [Act.put, List.setIfInBounds_toArray, List.set_cons_zero, List.set_cons_succ, i64_w, i32_w]
       rfl
      refine pure_ (i := 9) (N := some 98) (v := ?_) (a' := ?_) #[true, true, true, true, true, true, true, true, true, true, false, false, false, false, false, false, false] rfl rfl (any_of HT_.out (by kernel_rfl)) (fun _ _ _ h => h) (Or.inl ⟨by rfl, ?_⟩) ?_ ?_
      rotate_left
      ·intro w'
       go_simp
       with_reducible rfl
      rotate_left
      ·simp only [Act.put, List.setIfInBounds_toArray, List.set_cons_zero, List.set_cons_succ, i64_w, i32_w]
       rfl
      refine take_ (i := 10) (N := some 99) (v := ?_) (a' := ?_) #[true, true, true, true, true, true, true, true, true, true, true, false, false, false, false, false, false] rfl rfl (take_ofW HT_.out HW_.out (by kernel_rfl)) (fun _ _ _ h => h) (Or.inl ⟨by rfl, ?_⟩) hHeld ?_ ?_
      rotate_left
      ·rintro w' ⟨s0, s1, s2⟩
       go_simp
       with_reducible rfl
      rotate_left
      ·simp only [Act.put, List.setIfInBounds_toArray, List.set_cons_zero, List.set_cons_succ, i64_w, i32_w]
       rfl
      refine pure_ (i := 11) (N := some 100) (v := ?_) (a' := ?_) #[true, true, true, true, true, true, true, true, true, true, true, true, false, false, false, false, false] rfl rfl (any_of HT_.out (by kernel_rfl)) (fun _ _ _ h => h) (Or.inl ⟨by rfl, ?_⟩) ?_ ?_
      rotate_left
      ·intro w'
       go_simp
       with_reducible rfl
      rotate_left
      ·simp only [Act.put, List.setIfInBounds_toArray, List.set_cons_zero, List.set_cons_succ, i64_w, i32_w]
       rfl
      refine one_ (i := 12) (N := some 101) #[true, true, true, true, true, true, true, true, true, true, true, true, true, false, false, false, false] rfl rfl (one_of HT_.out (by kernel_rfl)) (by decide) (fun K hK => ?_)
      refine value_ (w1 := ?_) (v := ?_) (by rfl) rfl ?_ ?_
      rotate_left 2
      ·go_simp
       constructor
       ·rfl
       ·rfl
      refine hK.out _ _ ⟨(blk_cell (TKd.out.below (below_alloc (Below.refl _ _) _)).bT 0).trans rfl, (blk_cell (blk_alloc BNd.out _) 2).trans rfl, (seen_str (Kd.R_below R2d.out (below_alloc (Below.refl _ _) _)) hlv).trans (by rw [HVAL.out])⟩ (fun hHeld => ?_)
      clear hK K
      refine norm_ (a' := ?_) ?_ ?_
      rotate_left
      ·show Act.put _ (some 101) _ = _
       simp only [Act.put, List.setIfInBounds_toArray, List.set_cons_zero, List.set_cons_succ, i64_w, i32_w]
       rfl
      refine one_ (i := 13) (N := some 102) #[true, true, true, true, true, true, true, true, true, true, true, true, true, true, false, false, false] rfl rfl (one_of HT_.out (by kernel_rfl)) (by decide) (fun K hK => ?_)
      refine Kd.R_append_step k140 (w0 := w0) w0.heap.size (by rfl) (.tmp 93) (.tmp 101) 80 140 (.agg #[.string ⟨#[]⟩, .string ⟨#[]⟩]) 32 rfl Try.underlying80 info140d rfl (by decide) (by omega) (.slice Apk prk.length cpk) prk (⟨key, val⟩ : S140) [.string key, .string val] (fun _ => True) (fun _ => False) rfl rfl ?aP (fun _ hk => hk.elim) ?aF ?aO ?aB ?aS ?aL ?_
      (case aP => exact k140_mkM _ _ _ _)
      (case aF => exact (fun _ _ => trivial))
      (case aO => exact TKd.out.rp)
      (case aB => exact TKd.out.bel)
      (case aS => exact TKd.out.bel.size)
      (case aL => have := HLQ.out; omega)
      intro va wa ho hb hgr hat
      have ba := Aside0.mk (blk_grown TKd.out.bT hgr (Kd.R_ne TKd.out.rp TKd.out.bT (by decide)))
      have bna := Aside0.mk (blk_grown BNd.out hgr (Kd.R_ne TKd.out.rp BNd.out (by decide)))
      have r2a := Aside0.mk (Kd.R_over' R2d.out (Kd.R_typed TKd.out.rp) (by decide) hgr)
      rw [← HKS3.out] at ho
      obtain ⟨Ao3, co3, eo⟩ := Kd.R_slice ho
      subst eo
      have TT := Aside0.mk (TKd.out.pushPr layS (by decide) ho hb hgr hat)
      clear ho hb hgr hat
      refine hK.out _ _ ⟨(blk_cell ba.out 0).trans rfl, (blk_cell bna.out 2).trans rfl, (seen_str r2a.out hlv).trans (by rw [HVAL.out])⟩ (fun hHeld => ?_)
      clear hK K
      refine norm_ (a' := ?_) ?_ ?_
      rotate_left
      ·show Act.put _ (some 102) _ = _
       simp only [Act.put, List.setIfInBounds_toArray, List.set_cons_zero, List.set_cons_succ, i64_w, i32_w]
       rfl
      refine pure_ (i := 14) (N := some 103) (v := ?_) (a' := ?_) #[true, true, true, true, true, true, true, true, true, true, true, true, true, true, true, false, false] rfl rfl (any_of HT_.out (by kernel_rfl)) (fun _ _ _ h => h) (Or.inl ⟨by rfl, ?_⟩) ?_ ?_
      rotate_left
      ·intro w'
       go_simp
       with_reducible rfl
      rotate_left
      ·simp only [Act.put, List.setIfInBounds_toArray, List.set_cons_zero, List.set_cons_succ, i64_w, i32_w]
       rfl
      refine pure_ (i := 15) (N := some 104) (v := ?_) (a' := ?_) #[true, true, true, true, true, true, true, true, true, true, true, true, true, true, true, true, false] rfl rfl (any_of HT_.out (by kernel_rfl)) (fun _ _ _ h => h) (Or.inl ⟨by rfl, ?_⟩) ?_ ?_
      rotate_left
      ·intro w'
       go_simp
       with_reducible rfl
      rotate_left
      ·simp only [Act.put, List.setIfInBounds_toArray, List.set_cons_zero, List.set_cons_succ, i64_w, i32_w]
       rfl
      refine last_ (i := 16) (N := none) #[true, true, true, true, true, true, true, true, true, true, true, true, true, true, true, true, true] rfl rfl (one_of HT_.out (by kernel_rfl)) (by decide) (fun K hK => ?_)
      have hs1 : wa.cell? ⟨g, 0, none⟩ = some (.slice Apk prk.length cpk) := (blk_cell ba.out 0).trans rfl
      have hf1 := blk_frozen ba.out 0
      refine skip_ (w1 := ?_) (by rfl) rfl ?_ ?_
      rotate_left
      ·go_simp
       rfl
      refine hK.out _ _ ?_
      clear hK K
      refine done_ (done_of HT_.out (by kernel_rfl)) ?_
      clear ba bna r2a hs1 hf1 hHeld
      generalize hwx : wa.setCell ⟨g, 0, none⟩ _ = w7 at TT ⊢
      clear hwx
      obtain ⟨TT1, TT2⟩ := TT.out
      have T7 := Aside0.mk TT1
      have HF7 := Aside0.mk (HFd.out.trans TT2)
      have BN7 := Aside0.mk (blk_fr TT2 TKd.out BNd.out (by decide))
      have R17 := Aside0.mk (R9_fr TT2 TKd.out (by decide) R1d.out)
      have R27 := Aside0.mk (R9_fr TT2 TKd.out (by decide) R2d.out)
      clear TT TT1 TT2 TKd BNd R1d R2d HFd
      go_wp2
      have HW := Aside0.mk (show wrap64 ((kk : Int) + 1) = ((kk + 1 : Nat) : Int) by unfold wrap64; omega)
      have HPN := Aside0.mk (show prn = pr ++ pairsTo keys vals (kk + 1) by rw [pairsTo_succ, ← List.append_assoc, ← HPRK.out, HPAIR.out]; exact HKS3.out)
      go_roundg (keys.length - (kk + 1))
      case measure => omega
      case rel => exact ⟨kk + 1, true, Ao3, co3, by omega, by omega, by first | rfl | exact congrArg (Value.int .i64) HW.out, ⟨by rw [HLS.out]; unfold outB; simp [*]⟩, by rw [← HPN.out]; exact T7, BN7, R17, R27, by rw [← HPN.out]; exact HF7⟩
  ·have hltz : ¬ (kk : Int) < (keys.length : Int) := by omega
   have : kk = keys.length := by omega
   subst this
   rw [List.take_length] at HLKK
   have hn1 : wr.cell? ⟨gN, 1, none⟩ = some (.slice A1 keys.length c1) := (blk_cell BNK.out 1).trans rfl
   have hn0 : wr.cell? ⟨gN, 0, none⟩ = some (.bool true) := (blk_cell BNK.out 0).trans rfl
   have hd2 : wr.cell? ⟨g, 2, none⟩ = some (.slice Ad dp.length cd) := (blk_cell TK.out.bT 2).trans rfl
   have hgs := blk_lt TK.out.bT
   go_wp2_with (((with_reducible refine gate_builtin (b := .append) (xs := #[.tmp 157, .tmp 159]) rfl ?_); at_builtin; refine Kd.R_append (Kd.int .i64) (w0 := w0) w0.heap.size rfl (.tmp 157) (.tmp 159) 30 3 (.int .i64 0) 8 rfl Try.underlying30 info3d rfl (by decide) (by omega) (.slice Ad dp.length cd) dp deep [.int .i64 deep] (fun _ => True) (fun _ => False) rfl rfl ?aP (fun _ hk => hk.elim) ?aF ?aO ?aB ?aS ?aL ?_; (case aP => exact rfl); (case aF => exact (fun _ _ => trivial)); (case aO => exact TK.out.rd); (case aB => exact TK.out.bel); (case aS => exact TK.out.bel.size); (case aL => have := HLD.out; omega); intro va wa ho hb hgr hat; rw [← HKS2.out] at ho; obtain ⟨Ao2, co2, eo⟩ := Kd.R_slice ho; subst eo; have ba := Aside0.mk (blk_grown TK.out.bT hgr (Kd.R_ne TK.out.rd TK.out.bT (by decide))); have hsa : wa.cell? ⟨g, 2, none⟩ = some (.slice Ad dp.length cd) := (blk_cell ba.out 2).trans rfl; have hfa := blk_frozen ba.out; have hla := blk_lt ba.out; have TT := Aside0.mk (TK.out.pushDp layS (by decide) ho hb hgr hat); clear ho hb hgr hat))
   refine bodyPost_ret (results_list (rs := []) (vs := []) rfl (by simp) Vals.nil) rfl ?_
   rw [← HKS1.out, ← HKS2.out, ← HLKK.out]
   exact ⟨rfl, _, _, _, _, _, _, TT.out.1, HFK.out.trans TT.out.2⟩
end Go.Proofs.Ytapholbdjccapaa.PFnExactTreeOk
