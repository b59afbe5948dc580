import Derived.Test.YtapholbdjccapaaTA7
namespace Go.Proofs.Ytapholbdjccapaa.PFnExactTreeOk
open Go.RowKit Go.Proofs.YtapholbdjccapaaW.PrintWords Go.Proofs.YtapholbdjccapaaW.PrintLast Go.Proofs.YtapholbdjccapaaW.PrintMore
set_option linter.unusedVariables false
set_option linter.unusedSimpArgs false
structure TSt where
 pg : List Int
 pr : List S140
 dp : List Int
 order : Bool
 bad : Bool
def pairsTo (keys vals : List ByteArray) (n : Nat) : List S140 := (List.range n).map fun i => ⟨keys.getD i ByteArray.empty, vals.getD i ByteArray.empty⟩
def belowK (key : ByteArray) (x : S140) : Bool := Op.bytesLess x.f0.toList key.toList
def dnKids (rec_ : TSt → Int → TSt) (keys : List ByteArray) (kids : List Int) (first : Nat) : Nat → Nat → TSt → TSt
 | _, 0, st => st
 | i, n + 1, st =>
  if (rec_ st (kids.getD i 0)).bad = true then rec_ st (kids.getD i 0)
  else dnKids rec_ keys kids first (i + 1) n
   ⟨(rec_ st (kids.getD i 0)).pg, (rec_ st (kids.getD i 0)).pr, (rec_ st (kids.getD i 0)).dp,
    (rec_ st (kids.getD i 0)).order && !(((rec_ st (kids.getD i 0)).pr.drop st.pr.length).any (belowK (keys.getD i ByteArray.empty))) && !((((rec_ st (kids.getD i 0)).pr.take st.pr.length).drop first).any fun x => !(belowK (keys.getD i ByteArray.empty) x)), (rec_ st (kids.getD i 0)).bad⟩
def dn (rn : Int → S68 × Bool) : Nat → TSt → Int → Int → TSt
 | 0, st, _, _ => ⟨st.pg, st.pr, st.dp, st.order, true⟩
 | f + 1, st, page, deep =>
  if st.bad = true ∨ (rn page).2 = false ∨ deep > 8 ∨ st.pg.contains page = true then ⟨st.pg, st.pr, st.dp, st.order, true⟩
  else if (rn page).1.f0 = true then ⟨st.pg ++ [page], st.pr ++ pairsTo (rn page).1.f1 (rn page).1.f2 (rn page).1.f1.length, st.dp ++ [deep], st.order, st.bad⟩
  else dnKids (fun s k => dn rn f s k (deep + 1)) (rn page).1.f1 (rn page).1.f3 st.pr.length 0 (rn page).1.f3.length ⟨st.pg ++ [page], st.pr, st.dp, st.order, st.bad⟩
def nf : Nat → Nat
 | 0 => 0
 | f + 1 => 1 + 4 * nf f
def RnI (pages : List ByteArray) (late : List S189) (rn : Int → S68 × Bool) : Prop :=
 ∀ page : Int, ∃ s, (∃ k, impl_ReadPage.f k pages late page = some s) ∧ (∀ w, Calls Try.prog 30 #[.string s] w (NodePost w (rn page).1 (rn page).2)) ∧ (((rn page).2 = true ∧ nodeOkB (rn page).1.f0 (rn page).1.f1 (rn page).1.f2 (rn page).1.f3 = true) ∨ ((rn page).2 = false ∧ (rn page).1 = z68))
def cellsI (dP dL : Value) (vg vp vd : Value) (b1 b2 : Bool) : Array Value := #[dP, dL, vg, vp, vd, .bool b1, .bool b2]
theorem layI (dP dL : Value) : Lay (cellsI dP dL) 2 3 4 5 6 := ⟨fun _ _ _ _ _ _ => rfl, fun _ _ _ _ _ _ => rfl, fun _ _ _ _ _ _ => rfl, fun _ _ _ _ _ _ => rfl, fun _ _ _ _ _ _ => rfl⟩
def DownPost (C : Value → Value → Value → Bool → Bool → Array Value) (t : Nat) (w0 w : World) (g : Nat) (vg vp vd : Value) (st : TSt) (e : Ending) (w' : World) : Prop :=
 e = .returned (.tuple #[]) ∧ ∃ Ag cg Ap cp Ad cd, TInv C t w0 w' g (.slice Ag st.pg.length cg) (.slice Ap st.pr.length cp) (.slice Ad st.dp.length cd) st.order st.bad st.pg st.pr st.dp ∧
  TFr w w' g vg vp vd (.slice Ag st.pg.length cg) (.slice Ap st.pr.length cp) (.slice Ad st.dp.length cd)
theorem info3d : (Try.prog.info? 3).map (fun i => (i.zero, i.size, i.bytes)) = some (some (.int .i64 0), 1, 8) := by kernel_rfl
theorem info140d : (Try.prog.info? 140).map (fun i => (i.zero, i.size, i.bytes)) = some (some (.agg #[.string ⟨#[]⟩, .string ⟨#[]⟩]), 2, 32) := by kernel_rfl
set_option maxHeartbeats 16000000 in
set_option maxRecDepth 100000 in
theorem down_bad (AP : Option Addr) (cP : Nat) (pages : List ByteArray) (AL : Option Addr) (cL : Nat) (late : List S189) (w0 : World) (hP : Kd.C Kd.string w0 AP pages.length pages) (hcP : pages.length ≤ cP) (hL : Kd.C k189 w0 AL late.length late) (hcL : late.length ≤ cL) (rn : Int → S68 × Bool) (hrn : RnI pages late rn) (g : Nat) (st : TSt) (page deep : Int) (w : World) (Ag : Option Addr) (cg : Nat) (Ap : Option Addr) (cp : Nat) (Ad : Option Addr) (cd : Nat) (hT : TInv (cellsI (.slice AP pages.length cP) (.slice AL late.length cL)) 146 w0 w g (.slice Ag st.pg.length cg) (.slice Ap st.pr.length cp) (.slice Ad st.dp.length cd) st.order st.bad st.pg st.pr st.dp) (hbad : st.bad = true ∨ (rn page).2 = false ∨ deep > 8 ∨ st.pg.contains page = true) :
  Calls Try.prog 142 #[.pointer (some ⟨g, 0, none⟩), .int .i64 page, .int .i64 deep] w (DownPost (cellsI (.slice AP pages.length cP) (.slice AL late.length cL)) 146 w0 w g (.slice Ag st.pg.length cg) (.slice Ap st.pr.length cp) (.slice Ad st.dp.length cd) ⟨st.pg, st.pr, st.dp, st.order, true⟩) := by
 obtain ⟨s, ⟨k, hs⟩, hnode, hcase⟩ := hrn page
 have HS := Aside0.mk hs
 have HN := Aside0.mk hnode
 have HP := Aside0.mk hP
 have HL := Aside0.mk hL
 have HCASE := Aside0.mk hcase
 have HRN := Aside0.mk hrn
 have T0 := Aside0.mk hT
 obtain ⟨pg, pr, dp, order, bad⟩ := st
 obtain ⟨n, hn⟩ : ∃ n, (rn page).1 = n := ⟨_, rfl⟩
 obtain ⟨ok, hok⟩ : ∃ ok, (rn page).2 = ok := ⟨_, rfl⟩
 have HNN := Aside0.mk (And.intro hn hok)
 rw [hn, hok] at HN HCASE
 obtain ⟨leaf, keys, vals, kids⟩ := n
 simp only at T0
 clear hs hnode hP hL hcase hrn hT hn hok
 have hg := blk_lt T0.out.bT
 have ct0 : w.cell? ⟨g, 0, none⟩ = some (.slice AP pages.length cP) := (blk_cell T0.out.bT 0).trans rfl
 have ct1 : w.cell? ⟨g, 1, none⟩ = some (.slice AL late.length cL) := (blk_cell T0.out.bT 1).trans rfl
 rw [HNN.out.2] at hbad
 simp only at hbad
 cases bad with
 | true =>
  clear hbad
  go_enter Try.func142, Try.ntmps142
  go_wp2_with fail
  ((with_reducible refine (impl_ReadPage.calls k AP cP pages AL cL late page s _ (Kd.C_below HP.out T0.out.bel) hcP (Kd.C_below HL.out T0.out.bel) hcL HS.out).mono ?_); rintro e w1 ⟨rfl, hb1⟩)
  have T1 := Aside0.mk (T0.out.below hb1)
  obtain ⟨hc1, hf1⟩ := bcell hb1
  have HB1 := Aside0.mk hb1
  clear hb1
  go_wp2_with fail
  ((with_reducible refine (HN.out _).mono ?_); rintro e w2 ⟨A1, c1, A2, c2, A3, c3, rfl, r1, r2, r3, hb2⟩)
  have T3 := Aside0.mk ((T1.out.below hb2).alloc (.cells #[.bool leaf, .slice A1 keys.length c1, .slice A2 vals.length c2, .slice A3 kids.length c3] 68))
  have HB2 := Aside0.mk (show Below w.heap.size w w2 from below_step HB1.out hb2)
  have BN := Aside0.mk (blk_new w2 (.cells #[.bool leaf, .slice A1 keys.length c1, .slice A2 vals.length c2, .slice A3 kids.length c3] 68))
  have R1 := Aside0.mk (Kd.R_lower (base' := w0.heap.size) (Kd.R_below r1 (below_alloc (Below.refl _ _) (.cells #[.bool leaf, .slice A1 keys.length c1, .slice A2 vals.length c2, .slice A3 kids.length c3] 68))) T1.out.bel.size)
  have R2 := Aside0.mk (Kd.R_lower (base' := w0.heap.size) (Kd.R_below r2 (below_alloc (Below.refl _ _) (.cells #[.bool leaf, .slice A1 keys.length c1, .slice A2 vals.length c2, .slice A3 kids.length c3] 68))) T1.out.bel.size)
  have R3 := Aside0.mk (Kd.R_lower (base' := w0.heap.size) (Kd.R_below r3 (below_alloc (Below.refl _ _) (.cells #[.bool leaf, .slice A1 keys.length c1, .slice A2 vals.length c2, .slice A3 kids.length c3] 68))) T1.out.bel.size)
  have HF3 := Aside0.mk ((TFr.refl w g (.slice Ag pg.length cg) (.slice Ap pr.length cp) (.slice Ad dp.length cd)).below (below_alloc HB2.out (.cells #[.bool leaf, .slice A1 keys.length c1, .slice A2 vals.length c2, .slice A3 kids.length c3] 68)))
  have hne : NeRow (.slice A1 keys.length c1) (.slice Ag pg.length cg) ∧ NeRow (.slice A3 kids.length c3) (.slice Ag pg.length cg) ∧ NeRow (.slice A3 kids.length c3) (.slice Ad dp.length cd) := ⟨ne_fresh r1 T1.out.rg, ne_fresh r3 T1.out.rg, ne_fresh r3 T1.out.rd⟩
  have HNE := Aside0.mk hne
  have hsz := Aside0.mk (show w.heap.size ≤ w2.heap.size from HB2.out.size)
  clear r1 r2 r3 hb2 hc1 hf1 ct0 ct1 T1 hne
  go_upto_region 1 with (fail)
  have hgN := Aside0.mk (blk_lt BN.out)
  generalize hw3 : w2.alloc (.cells #[.bool leaf, .slice A1 keys.length c1, .slice A2 vals.length c2, .slice A3 kids.length c3] 68) = w3 at T3 BN R1 R2 R3 HF3 hgN ⊢
  clear hw3
  obtain ⟨gN, hgn⟩ : ∃ gN, w2.heap.size = gN := ⟨_, rfl⟩
  rw [hgn] at BN hsz hgN ⊢
  clear hgn
  have hgl := blk_lt T3.out.bT
  have hf2 := blk_frozen T3.out.bT
  have hd2 : w3.cell? ⟨g, 2, none⟩ = some (.slice Ag pg.length cg) := (blk_cell T3.out.bT 2).trans rfl
  have hd3 : w3.cell? ⟨g, 3, none⟩ = some (.slice Ap pr.length cp) := (blk_cell T3.out.bT 3).trans rfl
  have hd4 : w3.cell? ⟨g, 4, none⟩ = some (.slice Ad dp.length cd) := (blk_cell T3.out.bT 4).trans rfl
  have hd5 : w3.cell? ⟨g, 5, none⟩ = some (.bool order) := (blk_cell T3.out.bT 5).trans rfl
  have hd6 : w3.cell? ⟨g, 6, none⟩ = some (.bool true) := (blk_cell T3.out.bT 6).trans rfl
  go_wp2
  refine bodyPost_ret (results_list (rs := []) (vs := []) rfl (by simp) Vals.nil) rfl ?_
  exact ⟨rfl, Ag, cg, Ap, cp, Ad, cd, set2 (layI _ _) (by decide) T3.out, HF3.out.set _ _⟩
 | false =>
  cases ok with
  | false =>
   clear hbad
   go_enter Try.func142, Try.ntmps142
   go_wp2_with fail
   ((with_reducible refine (impl_ReadPage.calls k AP cP pages AL cL late page s _ (Kd.C_below HP.out T0.out.bel) hcP (Kd.C_below HL.out T0.out.bel) hcL HS.out).mono ?_); rintro e w1 ⟨rfl, hb1⟩)
   have T1 := Aside0.mk (T0.out.below hb1)
   obtain ⟨hc1, hf1⟩ := bcell hb1
   have HB1 := Aside0.mk hb1
   clear hb1
   go_wp2_with fail
   ((with_reducible refine (HN.out _).mono ?_); rintro e w2 ⟨A1, c1, A2, c2, A3, c3, rfl, r1, r2, r3, hb2⟩)
   have T3 := Aside0.mk ((T1.out.below hb2).alloc (.cells #[.bool leaf, .slice A1 keys.length c1, .slice A2 vals.length c2, .slice A3 kids.length c3] 68))
   have HB2 := Aside0.mk (show Below w.heap.size w w2 from below_step HB1.out hb2)
   have BN := Aside0.mk (blk_new w2 (.cells #[.bool leaf, .slice A1 keys.length c1, .slice A2 vals.length c2, .slice A3 kids.length c3] 68))
   have R1 := Aside0.mk (Kd.R_lower (base' := w0.heap.size) (Kd.R_below r1 (below_alloc (Below.refl _ _) (.cells #[.bool leaf, .slice A1 keys.length c1, .slice A2 vals.length c2, .slice A3 kids.length c3] 68))) T1.out.bel.size)
   have R2 := Aside0.mk (Kd.R_lower (base' := w0.heap.size) (Kd.R_below r2 (below_alloc (Below.refl _ _) (.cells #[.bool leaf, .slice A1 keys.length c1, .slice A2 vals.length c2, .slice A3 kids.length c3] 68))) T1.out.bel.size)
   have R3 := Aside0.mk (Kd.R_lower (base' := w0.heap.size) (Kd.R_below r3 (below_alloc (Below.refl _ _) (.cells #[.bool leaf, .slice A1 keys.length c1, .slice A2 vals.length c2, .slice A3 kids.length c3] 68))) T1.out.bel.size)
   have HF3 := Aside0.mk ((TFr.refl w g (.slice Ag pg.length cg) (.slice Ap pr.length cp) (.slice Ad dp.length cd)).below (below_alloc HB2.out (.cells #[.bool leaf, .slice A1 keys.length c1, .slice A2 vals.length c2, .slice A3 kids.length c3] 68)))
   have hne : NeRow (.slice A1 keys.length c1) (.slice Ag pg.length cg) ∧ NeRow (.slice A3 kids.length c3) (.slice Ag pg.length cg) ∧ NeRow (.slice A3 kids.length c3) (.slice Ad dp.length cd) := ⟨ne_fresh r1 T1.out.rg, ne_fresh r3 T1.out.rg, ne_fresh r3 T1.out.rd⟩
   have HNE := Aside0.mk hne
   have hsz := Aside0.mk (show w.heap.size ≤ w2.heap.size from HB2.out.size)
   clear r1 r2 r3 hb2 hc1 hf1 ct0 ct1 T1 hne
   go_upto_region 1 with (fail)
   have hgN := Aside0.mk (blk_lt BN.out)
   generalize hw3 : w2.alloc (.cells #[.bool leaf, .slice A1 keys.length c1, .slice A2 vals.length c2, .slice A3 kids.length c3] 68) = w3 at T3 BN R1 R2 R3 HF3 hgN ⊢
   clear hw3
   obtain ⟨gN, hgn⟩ : ∃ gN, w2.heap.size = gN := ⟨_, rfl⟩
   rw [hgn] at BN hsz hgN ⊢
   clear hgn
   have hgl := blk_lt T3.out.bT
   have hf2 := blk_frozen T3.out.bT
   have hd2 : w3.cell? ⟨g, 2, none⟩ = some (.slice Ag pg.length cg) := (blk_cell T3.out.bT 2).trans rfl
   have hd3 : w3.cell? ⟨g, 3, none⟩ = some (.slice Ap pr.length cp) := (blk_cell T3.out.bT 3).trans rfl
   have hd4 : w3.cell? ⟨g, 4, none⟩ = some (.slice Ad dp.length cd) := (blk_cell T3.out.bT 4).trans rfl
   have hd5 : w3.cell? ⟨g, 5, none⟩ = some (.bool order) := (blk_cell T3.out.bT 5).trans rfl
   have hd6 : w3.cell? ⟨g, 6, none⟩ = some (.bool false) := (blk_cell T3.out.bT 6).trans rfl
   go_wp2
   refine bodyPost_ret (results_list (rs := []) (vs := []) rfl (by simp) Vals.nil) rfl ?_
   exact ⟨rfl, Ag, cg, Ap, cp, Ad, cd, set2 (layI _ _) (by decide) T3.out, HF3.out.set _ _⟩
  | true =>
   by_cases hd : deep > 8
   ·have hd1 : decide (8 < deep) = true := decide_eq_true hd
    clear hbad hd
    go_enter Try.func142, Try.ntmps142
    go_wp2_with fail
    ((with_reducible refine (impl_ReadPage.calls k AP cP pages AL cL late page s _ (Kd.C_below HP.out T0.out.bel) hcP (Kd.C_below HL.out T0.out.bel) hcL HS.out).mono ?_); rintro e w1 ⟨rfl, hb1⟩)
    have T1 := Aside0.mk (T0.out.below hb1)
    obtain ⟨hc1, hf1⟩ := bcell hb1
    have HB1 := Aside0.mk hb1
    clear hb1
    go_wp2_with fail
    ((with_reducible refine (HN.out _).mono ?_); rintro e w2 ⟨A1, c1, A2, c2, A3, c3, rfl, r1, r2, r3, hb2⟩)
    have T3 := Aside0.mk ((T1.out.below hb2).alloc (.cells #[.bool leaf, .slice A1 keys.length c1, .slice A2 vals.length c2, .slice A3 kids.length c3] 68))
    have HB2 := Aside0.mk (show Below w.heap.size w w2 from below_step HB1.out hb2)
    have BN := Aside0.mk (blk_new w2 (.cells #[.bool leaf, .slice A1 keys.length c1, .slice A2 vals.length c2, .slice A3 kids.length c3] 68))
    have R1 := Aside0.mk (Kd.R_lower (base' := w0.heap.size) (Kd.R_below r1 (below_alloc (Below.refl _ _) (.cells #[.bool leaf, .slice A1 keys.length c1, .slice A2 vals.length c2, .slice A3 kids.length c3] 68))) T1.out.bel.size)
    have R2 := Aside0.mk (Kd.R_lower (base' := w0.heap.size) (Kd.R_below r2 (below_alloc (Below.refl _ _) (.cells #[.bool leaf, .slice A1 keys.length c1, .slice A2 vals.length c2, .slice A3 kids.length c3] 68))) T1.out.bel.size)
    have R3 := Aside0.mk (Kd.R_lower (base' := w0.heap.size) (Kd.R_below r3 (below_alloc (Below.refl _ _) (.cells #[.bool leaf, .slice A1 keys.length c1, .slice A2 vals.length c2, .slice A3 kids.length c3] 68))) T1.out.bel.size)
    have HF3 := Aside0.mk ((TFr.refl w g (.slice Ag pg.length cg) (.slice Ap pr.length cp) (.slice Ad dp.length cd)).below (below_alloc HB2.out (.cells #[.bool leaf, .slice A1 keys.length c1, .slice A2 vals.length c2, .slice A3 kids.length c3] 68)))
    have hne : NeRow (.slice A1 keys.length c1) (.slice Ag pg.length cg) ∧ NeRow (.slice A3 kids.length c3) (.slice Ag pg.length cg) ∧ NeRow (.slice A3 kids.length c3) (.slice Ad dp.length cd) := ⟨ne_fresh r1 T1.out.rg, ne_fresh r3 T1.out.rg, ne_fresh r3 T1.out.rd⟩
    have HNE := Aside0.mk hne
    have hsz := Aside0.mk (show w.heap.size ≤ w2.heap.size from HB2.out.size)
    clear r1 r2 r3 hb2 hc1 hf1 ct0 ct1 T1 hne
    go_upto_region 1 with (fail)
    have hgN := Aside0.mk (blk_lt BN.out)
    generalize hw3 : w2.alloc (.cells #[.bool leaf, .slice A1 keys.length c1, .slice A2 vals.length c2, .slice A3 kids.length c3] 68) = w3 at T3 BN R1 R2 R3 HF3 hgN ⊢
    clear hw3
    obtain ⟨gN, hgn⟩ : ∃ gN, w2.heap.size = gN := ⟨_, rfl⟩
    rw [hgn] at BN hsz hgN ⊢
    clear hgn
    have hgl := blk_lt T3.out.bT
    have hf2 := blk_frozen T3.out.bT
    have hd2 : w3.cell? ⟨g, 2, none⟩ = some (.slice Ag pg.length cg) := (blk_cell T3.out.bT 2).trans rfl
    have hd3 : w3.cell? ⟨g, 3, none⟩ = some (.slice Ap pr.length cp) := (blk_cell T3.out.bT 3).trans rfl
    have hd4 : w3.cell? ⟨g, 4, none⟩ = some (.slice Ad dp.length cd) := (blk_cell T3.out.bT 4).trans rfl
    have hd5 : w3.cell? ⟨g, 5, none⟩ = some (.bool order) := (blk_cell T3.out.bT 5).trans rfl
    have hd6 : w3.cell? ⟨g, 6, none⟩ = some (.bool false) := (blk_cell T3.out.bT 6).trans rfl
    go_wp2
    refine bodyPost_ret (results_list (rs := []) (vs := []) rfl (by simp) Vals.nil) rfl ?_
    exact ⟨rfl, Ag, cg, Ap, cp, Ad, cd, set2 (layI _ _) (by decide) T3.out, HF3.out.set _ _⟩
   ·have hd1 : decide (8 < deep) = false := decide_eq_false (by omega)
    have hcon : pg.contains page = true := by
     rcases hbad with e | e | e | e
     ·cases e
     ·cases e
     ·exact absurd e hd
     ·exact e
    obtain ⟨kc, hkc⟩ := contains_ev pg page true hcon (R_seen T0.out.rg).2.2.1
    have HKC := Aside0.mk hkc
    clear hbad hd hcon hkc
    go_enter Try.func142, Try.ntmps142
    go_wp2_with fail
    ((with_reducible refine (impl_ReadPage.calls k AP cP pages AL cL late page s _ (Kd.C_below HP.out T0.out.bel) hcP (Kd.C_below HL.out T0.out.bel) hcL HS.out).mono ?_); rintro e w1 ⟨rfl, hb1⟩)
    have T1 := Aside0.mk (T0.out.below hb1)
    obtain ⟨hc1, hf1⟩ := bcell hb1
    have HB1 := Aside0.mk hb1
    clear hb1
    go_wp2_with fail
    ((with_reducible refine (HN.out _).mono ?_); rintro e w2 ⟨A1, c1, A2, c2, A3, c3, rfl, r1, r2, r3, hb2⟩)
    have T3 := Aside0.mk ((T1.out.below hb2).alloc (.cells #[.bool leaf, .slice A1 keys.length c1, .slice A2 vals.length c2, .slice A3 kids.length c3] 68))
    have HB2 := Aside0.mk (show Below w.heap.size w w2 from below_step HB1.out hb2)
    have BN := Aside0.mk (blk_new w2 (.cells #[.bool leaf, .slice A1 keys.length c1, .slice A2 vals.length c2, .slice A3 kids.length c3] 68))
    have R1 := Aside0.mk (Kd.R_lower (base' := w0.heap.size) (Kd.R_below r1 (below_alloc (Below.refl _ _) (.cells #[.bool leaf, .slice A1 keys.length c1, .slice A2 vals.length c2, .slice A3 kids.length c3] 68))) T1.out.bel.size)
    have R2 := Aside0.mk (Kd.R_lower (base' := w0.heap.size) (Kd.R_below r2 (below_alloc (Below.refl _ _) (.cells #[.bool leaf, .slice A1 keys.length c1, .slice A2 vals.length c2, .slice A3 kids.length c3] 68))) T1.out.bel.size)
    have R3 := Aside0.mk (Kd.R_lower (base' := w0.heap.size) (Kd.R_below r3 (below_alloc (Below.refl _ _) (.cells #[.bool leaf, .slice A1 keys.length c1, .slice A2 vals.length c2, .slice A3 kids.length c3] 68))) T1.out.bel.size)
    have HF3 := Aside0.mk ((TFr.refl w g (.slice Ag pg.length cg) (.slice Ap pr.length cp) (.slice Ad dp.length cd)).below (below_alloc HB2.out (.cells #[.bool leaf, .slice A1 keys.length c1, .slice A2 vals.length c2, .slice A3 kids.length c3] 68)))
    have hne : NeRow (.slice A1 keys.length c1) (.slice Ag pg.length cg) ∧ NeRow (.slice A3 kids.length c3) (.slice Ag pg.length cg) ∧ NeRow (.slice A3 kids.length c3) (.slice Ad dp.length cd) := ⟨ne_fresh r1 T1.out.rg, ne_fresh r3 T1.out.rg, ne_fresh r3 T1.out.rd⟩
    have HNE := Aside0.mk hne
    have hsz := Aside0.mk (show w.heap.size ≤ w2.heap.size from HB2.out.size)
    clear r1 r2 r3 hb2 hc1 hf1 ct0 ct1 T1 hne
    go_upto_region 1 with (fail)
    have hgN := Aside0.mk (blk_lt BN.out)
    generalize hw3 : w2.alloc (.cells #[.bool leaf, .slice A1 keys.length c1, .slice A2 vals.length c2, .slice A3 kids.length c3] 68) = w3 at T3 BN R1 R2 R3 HF3 hgN ⊢
    clear hw3
    obtain ⟨gN, hgn⟩ : ∃ gN, w2.heap.size = gN := ⟨_, rfl⟩
    rw [hgn] at BN hsz hgN ⊢
    clear hgn
    have hgl := blk_lt T3.out.bT
    have hf2 := blk_frozen T3.out.bT
    have hd2 : w3.cell? ⟨g, 2, none⟩ = some (.slice Ag pg.length cg) := (blk_cell T3.out.bT 2).trans rfl
    have hd3 : w3.cell? ⟨g, 3, none⟩ = some (.slice Ap pr.length cp) := (blk_cell T3.out.bT 3).trans rfl
    have hd4 : w3.cell? ⟨g, 4, none⟩ = some (.slice Ad dp.length cd) := (blk_cell T3.out.bT 4).trans rfl
    have hd5 : w3.cell? ⟨g, 5, none⟩ = some (.bool order) := (blk_cell T3.out.bT 5).trans rfl
    have hd6 : w3.cell? ⟨g, 6, none⟩ = some (.bool false) := (blk_cell T3.out.bT 6).trans rfl
    go_wp2_with fail
    ((with_reducible refine (slices_Contains_int_int.calls kc Ag cg pg page true _ (R_seen T3.out.rg).2 (R_seen T3.out.rg).1 HKC.out).mono ?_); rintro e w4 ⟨rfl, nd4, rfl⟩)
    go_wp2
    refine bodyPost_ret (results_list (rs := []) (vs := []) rfl (by simp) Vals.nil) rfl ?_
    exact ⟨rfl, Ag, cg, Ap, cp, Ad, cd, set2 (layI _ _) (by decide) (T3.out.below (Drawn0.below ⟨nd4, rfl⟩)), (HF3.out.below (Drawn0.below ⟨nd4, rfl⟩)).set _ _⟩
section
variable {C : Value → Value → Value → Bool → Bool → Array Value} {t : Nat} {w0 W W' : World} {g : Nat} {vg vp vd vg' vp' vd' : Value} {b1 b2 : Bool} {pg dp : List Int} {pr : List S140}
theorem blk_fr (hf : TFr W W' g vg vp vd vg' vp' vd') (hT : TInv C t w0 W g vg vp vd b1 b2 pg pr dp) {b tb : Nat} {cs : Array Value} (hb : W.heap[b]? = some (.cells cs tb (0, 0))) (htb : tb ≠ 3 ∧ tb ≠ 140 ∧ tb ≠ t) : W'.heap[b]? = some (.cells cs tb (0, 0)) :=
 (hf.keep b (blk_lt hb) (blk_ne hb hT.bT htb.2.2) (Kd.R_ne hT.rg hb htb.1.symm) (Kd.R_ne hT.rp hb htb.2.1.symm) (Kd.R_ne hT.rd hb htb.1.symm)).trans hb
theorem R9_fr (hf : TFr W W' g vg vp vd vg' vp' vd') (hT : TInv C t w0 W g vg vp vd b1 b2 pg pr dp) (ht : t ≠ 9) {base : Nat} {v : Value} {xs : List ByteArray} (h : Kd.R Kd.string 9 W base (fun _ => True) v xs) : Kd.R Kd.string 9 W' base (fun _ => True) v xs :=
 R_fr hf h hT.bT ht.symm (ne_types h hT.rg (by decide)) (ne_types h hT.rp (by decide)) (ne_types h hT.rd (by decide))
theorem R3_fr (hf : TFr W W' g vg vp vd vg' vp' vd') (hT : TInv C t w0 W g vg vp vd b1 b2 pg pr dp) (ht : t ≠ 3) {base : Nat} {v : Value} {xs : List Int} (h : Kd.R (Kd.int .i64) 3 W base (fun _ => True) v xs) (n1 : NeRow v vg) (n3 : NeRow v vd) : Kd.R (Kd.int .i64) 3 W' base (fun _ => True) v xs ∧ NeRow v vg' ∧ NeRow v vd' :=
 ⟨R_fr hf h hT.bT ht.symm n1 (ne_types h hT.rp (by decide)) n3, ne_at h n1 hf.ag, ne_at h n3 hf.ad⟩
end
theorem seen_str {W : World} {e base : Nat} {ok : Nat → Prop} {ad : Addr} {c : Nat} {xs : List ByteArray} (h : Kd.R Kd.string e W base ok (.slice (some ad) xs.length c) xs) {k : Nat} (hk : k < xs.length) : W.cell? (ad.add k) = some (.string xs[k]) := by
 obtain ⟨ad', e', hc⟩ := Kd.at_string (R_seen h).2 (k : Int) (by omega) (by omega)
 injection e' with e'
 subst e'
 rw [rdOf_nat _ _ _ hk, Int.toNat_natCast] at hc
 exact hc
theorem some_ad {α : Type} {d : Kd α} {e base : Nat} {W : World} {ok : Nat → Prop} {A : Option Addr} {c : Nat} {xs : List α} (h : Kd.R d e W base ok (.slice A xs.length c) xs) (hl : 0 < xs.length) : ∃ ad, A = some ad := by
 obtain ⟨ad, h1, _⟩ := (R_seen h).2.2.2 hl
 exact ⟨ad, h1⟩
theorem pairsTo_len (keys vals : List ByteArray) (n : Nat) : (pairsTo keys vals n).length = n := by simp [pairsTo]
theorem pairsTo_succ (keys vals : List ByteArray) (n : Nat) : pairsTo keys vals (n + 1) = pairsTo keys vals n ++ [⟨keys.getD n ByteArray.empty, vals.getD n ByteArray.empty⟩] := by simp [pairsTo, List.range_succ]
def impl_down.T9 : Bool × List (List Nat × List Nat) := (true, [([], []), ([], []), ([1], [1]), ([2], [2]), ([3], [3]), ([], []), ([], []), ([6], [6]), ([], []), ([7, 8], [7, 8]), ([9], [9]), ([5, 10], [5, 10]), ([11], [11]), ([4, 12], [4, 12]), ([0, 0, 1, 2, 3, 4, 5, 6, 7, 8, 9, 10, 11, 12, 13], [0]), ([14, 0, 1, 2, 3, 4, 5, 6, 7, 8, 9, 10, 11, 12, 13], [14]), ([15, 13, 13, 0, 1, 2, 3, 4, 5, 6, 7, 8, 9, 10, 11, 12, 13], [13, 15])])
def impl_down.B9 : List Nat := [0, 0, 2, 6, 14, 0, 0, 64, 0, 448, 960, 2016, 4064, 8190, 16383, 32767, 65535]
theorem impl_down.tab9 : rtab .any (opsOf Try.f142 9) = impl_down.T9 := by kernel_rfl
theorem impl_down.bits9 : waitsOk impl_down.T9.2 impl_down.B9 = true := by kernel_rfl
set_option maxHeartbeats 16000000 in
set_option maxRecDepth 100000 in
theorem down_leaf (AP : Option Addr) (cP : Nat) (pages : List ByteArray) (AL : Option Addr) (cL : Nat) (late : List S189) (w0 : World) (hP : Kd.C Kd.string w0 AP pages.length pages) (hcP : pages.length ≤ cP) (hL : Kd.C k189 w0 AL late.length late) (hcL : late.length ≤ cL) (rn : Int → S68 × Bool) (hrn : RnI pages late rn) (g : Nat) (st : TSt) (page deep : Int) (w : World) (Ag : Option Addr) (cg : Nat) (Ap : Option Addr) (cp : Nat) (Ad : Option Addr) (cd : Nat) (hT : TInv (cellsI (.slice AP pages.length cP) (.slice AL late.length cL)) 146 w0 w g (.slice Ag st.pg.length cg) (.slice Ap st.pr.length cp) (.slice Ad st.dp.length cd) st.order st.bad st.pg st.pr st.dp) (hbad : st.bad = false) (hok : (rn page).2 = true) (hd : deep ≤ 8) (hcon : st.pg.contains page = false) (hleaf : (rn page).1.f0 = true) (hlg : st.pg.length ≤ 1000000) (hlp : st.pr.length ≤ 1000000) (hld : st.dp.length ≤ 1000000) :
  Calls Try.prog 142 #[.pointer (some ⟨g, 0, none⟩), .int .i64 page, .int .i64 deep] w (DownPost (cellsI (.slice AP pages.length cP) (.slice AL late.length cL)) 146 w0 w g (.slice Ag st.pg.length cg) (.slice Ap st.pr.length cp) (.slice Ad st.dp.length cd) ⟨st.pg ++ [page], st.pr ++ pairsTo (rn page).1.f1 (rn page).1.f2 (rn page).1.f1.length, st.dp ++ [deep], st.order, st.bad⟩) := by
 obtain ⟨s, ⟨k, hs⟩, hnode, hcase⟩ := hrn page
 have HS := Aside0.mk hs
 have HN := Aside0.mk hnode
 have HP := Aside0.mk hP
 have HL := Aside0.mk hL
 have HCASE := Aside0.mk hcase
 have HRN := Aside0.mk hrn
 have T0 := Aside0.mk hT
 obtain ⟨pg, pr, dp, order, bad⟩ := st
 obtain ⟨n, hn⟩ : ∃ n, (rn page).1 = n := ⟨_, rfl⟩
 obtain ⟨ok, hok⟩ : ∃ ok, (rn page).2 = ok := ⟨_, rfl⟩
 have HNN := Aside0.mk (And.intro hn hok)
 rw [hn, hok] at HN HCASE
 obtain ⟨leaf, keys, vals, kids⟩ := n
 simp only at T0
 clear hs hnode hP hL hcase hrn hT hn hok
 have hg := blk_lt T0.out.bT
 have ct0 : w.cell? ⟨g, 0, none⟩ = some (.slice AP pages.length cP) := (blk_cell T0.out.bT 0).trans rfl
 have ct1 : w.cell? ⟨g, 1, none⟩ = some (.slice AL late.length cL) := (blk_cell T0.out.bT 1).trans rfl
 rw [HNN.out.1] at hleaf ⊢
 simp only at hbad hcon hlg hlp hld hleaf ⊢
 subst hleaf
 subst hbad
 rw [HNN.out.2] at hok
 subst hok
 have hd1 : decide (8 < deep) = false := decide_eq_false (by omega)
 have hnk : nodeOkB true keys vals kids = true := by
  rcases HCASE.out with h | h
  ·exact h.2
  ·cases h.1
 obtain ⟨hshape, hcond⟩ := (nodeOk_iff _ _ _ _).1 hnk
 obtain ⟨kc, hkc⟩ := contains_ev pg page false hcon (R_seen T0.out.rg).2.2.1
 have HKC := Aside0.mk hkc
 have HLG := Aside0.mk hlg
 have HLP := Aside0.mk hlp
 have HLD := Aside0.mk hld
 obtain ⟨ks1, hks⟩ : ∃ z, z = pg ++ [page] := ⟨_, rfl⟩
 have HKS1 := Aside0.mk hks
 clear hd hcon hkc hnk hlg hlp hld hks hcond
 obtain ⟨ks2, hks⟩ : ∃ z, z = dp ++ [deep] := ⟨_, rfl⟩
 have HKS2 := Aside0.mk hks
 have HVL := Aside0.mk (hshape.2.1 rfl).1
 have hkl := hshape.1.2
 clear hks hshape
 go_enter Try.func142, Try.ntmps142
 go_wp2_with fail
 ((with_reducible refine (impl_ReadPage.calls k AP cP pages AL cL late page s _ (Kd.C_below HP.out T0.out.bel) hcP (Kd.C_below HL.out T0.out.bel) hcL HS.out).mono ?_); rintro e w1 ⟨rfl, hb1⟩)
 have T1 := Aside0.mk (T0.out.below hb1)
 obtain ⟨hc1, hf1⟩ := bcell hb1
 have HB1 := Aside0.mk hb1
 clear hb1
 go_wp2_with fail
 ((with_reducible refine (HN.out _).mono ?_); rintro e w2 ⟨A1, c1, A2, c2, A3, c3, rfl, r1, r2, r3, hb2⟩)
 have T3 := Aside0.mk ((T1.out.below hb2).alloc (.cells #[.bool true, .slice A1 keys.length c1, .slice A2 vals.length c2, .slice A3 kids.length c3] 68))
 have HB2 := Aside0.mk (show Below w.heap.size w w2 from below_step HB1.out hb2)
 have BN := Aside0.mk (blk_new w2 (.cells #[.bool true, .slice A1 keys.length c1, .slice A2 vals.length c2, .slice A3 kids.length c3] 68))
 have R1 := Aside0.mk (Kd.R_lower (base' := w0.heap.size) (Kd.R_below r1 (below_alloc (Below.refl _ _) (.cells #[.bool true, .slice A1 keys.length c1, .slice A2 vals.length c2, .slice A3 kids.length c3] 68))) T1.out.bel.size)
 have R2 := Aside0.mk (Kd.R_lower (base' := w0.heap.size) (Kd.R_below r2 (below_alloc (Below.refl _ _) (.cells #[.bool true, .slice A1 keys.length c1, .slice A2 vals.length c2, .slice A3 kids.length c3] 68))) T1.out.bel.size)
 have R3 := Aside0.mk (Kd.R_lower (base' := w0.heap.size) (Kd.R_below r3 (below_alloc (Below.refl _ _) (.cells #[.bool true, .slice A1 keys.length c1, .slice A2 vals.length c2, .slice A3 kids.length c3] 68))) T1.out.bel.size)
 have HF3 := Aside0.mk ((TFr.refl w g (.slice Ag pg.length cg) (.slice Ap pr.length cp) (.slice Ad dp.length cd)).below (below_alloc HB2.out (.cells #[.bool true, .slice A1 keys.length c1, .slice A2 vals.length c2, .slice A3 kids.length c3] 68)))
 have hne : NeRow (.slice A1 keys.length c1) (.slice Ag pg.length cg) ∧ NeRow (.slice A3 kids.length c3) (.slice Ag pg.length cg) ∧ NeRow (.slice A3 kids.length c3) (.slice Ad dp.length cd) := ⟨ne_fresh r1 T1.out.rg, ne_fresh r3 T1.out.rg, ne_fresh r3 T1.out.rd⟩
 have HNE := Aside0.mk hne
 have hsz := Aside0.mk (show w.heap.size ≤ w2.heap.size from HB2.out.size)
 clear r1 r2 r3 hb2 hc1 hf1 ct0 ct1 T1 hne
 go_upto_region 1 with (fail)
 have hgN := Aside0.mk (blk_lt BN.out)
 generalize hw3 : w2.alloc (.cells #[.bool true, .slice A1 keys.length c1, .slice A2 vals.length c2, .slice A3 kids.length c3] 68) = w3 at T3 BN R1 R2 R3 HF3 hgN ⊢
 clear hw3
 obtain ⟨gN, hgn⟩ : ∃ gN, w2.heap.size = gN := ⟨_, rfl⟩
 rw [hgn] at BN hsz hgN ⊢
 clear hgn
 have hgl := blk_lt T3.out.bT
 have hf2 := blk_frozen T3.out.bT
 have hd2 : w3.cell? ⟨g, 2, none⟩ = some (.slice Ag pg.length cg) := (blk_cell T3.out.bT 2).trans rfl
 have hd3 : w3.cell? ⟨g, 3, none⟩ = some (.slice Ap pr.length cp) := (blk_cell T3.out.bT 3).trans rfl
 have hd4 : w3.cell? ⟨g, 4, none⟩ = some (.slice Ad dp.length cd) := (blk_cell T3.out.bT 4).trans rfl
 have hd5 : w3.cell? ⟨g, 5, none⟩ = some (.bool order) := (blk_cell T3.out.bT 5).trans rfl
 have hd6 : w3.cell? ⟨g, 6, none⟩ = some (.bool false) := (blk_cell T3.out.bT 6).trans rfl
 go_wp2_with fail
 ((with_reducible refine (slices_Contains_int_int.calls kc Ag cg pg page false _ (R_seen T3.out.rg).2 (R_seen T3.out.rg).1 HKC.out).mono ?_); rintro e w4 ⟨rfl, nd4, rfl⟩)
 have T4 := Aside0.mk (T3.out.below (Drawn0.below ⟨nd4, rfl⟩))
 have BN4 := Aside0.mk (blk_below BN.out (Drawn0.below ⟨nd4, rfl⟩))
 have R14 := Aside0.mk (Kd.R_below R1.out (Drawn0.below ⟨nd4, rfl⟩))
 have R24 := Aside0.mk (Kd.R_below R2.out (Drawn0.below ⟨nd4, rfl⟩))
 have R34 := Aside0.mk (Kd.R_below R3.out (Drawn0.below ⟨nd4, rfl⟩))
 have HF4 := Aside0.mk (HF3.out.below (Drawn0.below ⟨nd4, rfl⟩))
 clear T3 BN R1 R2 R3 HF3
 generalize w3.drewN nd4 = w4 at T4 BN4 R14 R24 R34 HF4 ⊢
 have hgl4 := blk_lt T4.out.bT
 have hd24 : w4.cell? ⟨g, 2, none⟩ = some (.slice Ag pg.length cg) := (blk_cell T4.out.bT 2).trans rfl
 clear hf2 hd2 hd3 hd4 hd5 hd6 hgl
 go_upto_region 4 with (((with_reducible refine gate_builtin (b := .append) (xs := #[.tmp 51, .tmp 53]) rfl ?_); at_builtin; refine Kd.R_append (Kd.int .i64) (w0 := w0) w0.heap.size rfl (.tmp 51) (.tmp 53) 30 3 (.int .i64 0) 8 rfl Try.underlying30 info3d rfl (by decide) (by omega) (.slice Ag pg.length cg) pg page [.int .i64 page] (fun _ => True) (fun _ => False) rfl rfl ?aP (fun _ hk => hk.elim) ?aF ?aO ?aB ?aS ?aL ?_; (case aP => exact rfl); (case aF => exact (fun _ _ => trivial)); (case aO => exact T4.out.rg); (case aB => exact T4.out.bel); (case aS => exact T4.out.bel.size); (case aL => have := HLG.out; omega); intro va wa ho hb hgr hat; rw [← HKS1.out] at ho; obtain ⟨Ao1, co1, eo⟩ := Kd.R_slice ho; subst eo; have ba := Aside0.mk (blk_grown T4.out.bT hgr (Kd.R_ne T4.out.rg T4.out.bT (by decide))); have hsa : wa.cell? ⟨g, 2, none⟩ = some (.slice Ag pg.length cg) := (blk_cell ba.out 2).trans rfl; have hfa := blk_frozen ba.out; have hla := blk_lt ba.out; have TT := Aside0.mk (T4.out.pushPg (layI _ _) (by decide) ho hb hgr hat); clear ho hb hgr hat))
 clear hsa hfa hla ba hd24 hgl4
 generalize hwx : wa.setCell ⟨g, 2, none⟩ _ = w5 at TT ⊢
 clear hwx
 obtain ⟨TT1, TT2⟩ := TT.out
 have T5 := Aside0.mk TT1
 have HF5 := Aside0.mk (HF4.out.trans TT2)
 have BN5 := Aside0.mk (blk_fr TT2 T4.out BN4.out (by decide))
 have R15 := Aside0.mk (R9_fr TT2 T4.out (by decide) R14.out)
 have R25 := Aside0.mk (R9_fr TT2 T4.out (by decide) R24.out)
 have R35 := Aside0.mk (R3_fr TT2 T4.out (by decide) R34.out HNE.out.2.1 HNE.out.2.2)
 clear TT TT1 TT2 T4 BN4 R14 R24 R34 HF4
 have hgl5 := blk_lt T5.out.bT
 have hd45 : w5.cell? ⟨g, 4, none⟩ = some (.slice Ad dp.length cd) := (blk_cell T5.out.bT 4).trans rfl
 have hn05 : w5.cell? ⟨gN, 0, none⟩ = some (.bool true) := (blk_cell BN5.out 0).trans rfl
 go_upto_region 6 with (((with_reducible refine gate_builtin (b := .append) (xs := #[.tmp 63, .tmp 65]) rfl ?_); at_builtin; refine Kd.R_append (Kd.int .i64) (w0 := w0) w0.heap.size rfl (.tmp 63) (.tmp 65) 30 3 (.int .i64 0) 8 rfl Try.underlying30 info3d rfl (by decide) (by omega) (.slice Ad dp.length cd) dp deep [.int .i64 deep] (fun _ => True) (fun _ => False) rfl rfl ?aP (fun _ hk => hk.elim) ?aF ?aO ?aB ?aS ?aL ?_; (case aP => exact rfl); (case aF => exact (fun _ _ => trivial)); (case aO => exact T5.out.rd); (case aB => exact T5.out.bel); (case aS => exact T5.out.bel.size); (case aL => have := HLD.out; omega); intro va wa ho hb hgr hat; rw [← HKS2.out] at ho; obtain ⟨Ao2, co2, eo⟩ := Kd.R_slice ho; subst eo; have ba := Aside0.mk (blk_grown T5.out.bT hgr (Kd.R_ne T5.out.rd T5.out.bT (by decide))); have hsa : wa.cell? ⟨g, 4, none⟩ = some (.slice Ad dp.length cd) := (blk_cell ba.out 4).trans rfl; have hfa := blk_frozen ba.out; have hla := blk_lt ba.out; have TT := Aside0.mk (T5.out.pushDp (layI _ _) (by decide) ho hb hgr hat); clear ho hb hgr hat))
 clear hsa hfa hla ba hd45 hgl5 hn05
 generalize hwx : wa.setCell ⟨g, 4, none⟩ _ = w6 at TT ⊢
 clear hwx
 obtain ⟨TT1, TT2⟩ := TT.out
 have T6 := Aside0.mk TT1
 have HF6 := Aside0.mk (HF5.out.trans TT2)
 have BN6 := Aside0.mk (blk_fr TT2 T5.out BN5.out (by decide))
 have R16 := Aside0.mk (R9_fr TT2 T5.out (by decide) R15.out)
 have R26 := Aside0.mk (R9_fr TT2 T5.out (by decide) R25.out)
 clear TT TT1 TT2 T5 BN5 R15 R25 R35 HF5
 have hn16 : w6.cell? ⟨gN, 1, none⟩ = some (.slice A1 keys.length c1) := (blk_cell BN6.out 1).trans rfl
 go_wp2_with fail
 go_loopg [72] keys.length (fun gg s72 wr => ∃ (kk : Nat) (Apk : Option Addr) (cpk : Nat), kk ≤ keys.length ∧ keys.length - kk ≤ gg ∧ s72 = .int .i64 kk ∧ Aside0 (TInv (cellsI (.slice AP pages.length cP) (.slice AL late.length cL)) 146 w0 wr g (.slice Ao1 ks1.length co1) (.slice Apk (pr ++ pairsTo keys vals kk).length cpk) (.slice Ao2 ks2.length co2) order false ks1 (pr ++ pairsTo keys vals kk) ks2) ∧ Aside0 (wr.heap[gN]? = some (.cells #[.bool true, .slice A1 keys.length c1, .slice A2 vals.length c2, .slice A3 kids.length c3] 68 (0, 0))) ∧
   Aside0 (Kd.R Kd.string 9 wr w0.heap.size (fun _ => True) (.slice A1 keys.length c1) keys) ∧ Aside0 (Kd.R Kd.string 9 wr w0.heap.size (fun _ => True) (.slice A2 vals.length c2) vals) ∧ Aside0 (TFr w wr g (.slice Ag pg.length cg) (.slice Ap pr.length cp) (.slice Ad dp.length cd) (.slice Ao1 ks1.length co1) (.slice Apk (pr ++ pairsTo keys vals kk).length cpk) (.slice Ao2 ks2.length co2)))
 case atStart =>
  have e0 : pr ++ pairsTo keys vals 0 = pr := by simp [pairsTo]
  exact ⟨0, Ap, cp, Nat.zero_le _, by omega, rfl, by rw [e0]; exact T6, BN6, R16, R26, by rw [e0]; exact HF6⟩
 case round =>
  clear T6 BN6 R16 R26 HF6 hn16
  obtain ⟨kk, Apk, cpk, hkk, hgg, rfl, TK, BNK, R1K, R2K, HFK⟩ := hrel
  by_cases hlt : kk < keys.length
  ·have hltz : (kk : Int) < (keys.length : Int) := by omega
   have hlv : kk < vals.length := by have := HVL.out; omega
   have hlvz : (kk : Int) < (vals.length : Int) := by omega
   obtain ⟨ad1, rfl⟩ := some_ad R1K.out (by omega)
   obtain ⟨ad2, rfl⟩ := some_ad R2K.out (by omega)
   have hk1 := seen_str R1K.out hlt
   obtain ⟨key, hkey⟩ : ∃ key, keys[kk] = key := ⟨_, rfl⟩
   obtain ⟨val, hval⟩ : ∃ val, vals[kk] = val := ⟨_, rfl⟩
   rw [hkey] at hk1
   have HPAIR := Aside0.mk (show (⟨keys.getD kk ByteArray.empty, vals.getD kk ByteArray.empty⟩ : S140) = ⟨key, val⟩ by
    rw [List.getD_eq_getElem?_getD, List.getD_eq_getElem?_getD, List.getElem?_eq_getElem hlt, List.getElem?_eq_getElem hlv, Option.getD_some, Option.getD_some, hkey, hval])
   have HVAL := Aside0.mk hval
   obtain ⟨prk, hprk⟩ : ∃ z, z = pr ++ pairsTo keys vals kk := ⟨_, rfl⟩
   have HPRK := Aside0.mk hprk
   rw [← hprk] at TK HFK
   have HLQ := Aside0.mk (show prk.length ≤ 1000010 by rw [hprk, List.length_append, pairsTo_len]; have := HLP.out; omega)
   obtain ⟨prn, hprn⟩ : ∃ z, z = prk ++ [(⟨key, val⟩ : S140)] := ⟨_, rfl⟩
   have HKS3 := Aside0.mk hprn
   clear hkey hval hprk hprn
   go_wp2_with fail
   clear hk1
   have TKd := Aside0.mk TK.out.drew
   have BNd := Aside0.mk (blk_below BNK.out (Below.refl _ _).drew)
   have R1d := Aside0.mk (Kd.R_below R1K.out (Below.refl _ _).drew)
   have R2d := Aside0.mk (Kd.R_below R2K.out (Below.refl _ _).drew)
   have HFd := Aside0.mk (HFK.out.below (Below.refl _ _).drew)
   clear TK BNK R1K R2K HFK
   refine start_ (n := 17) (S := fun w' => w'.cell? ⟨g, 3, none⟩ = some (.slice Apk prk.length cpk) ∧ w'.cell? ⟨gN, 2, none⟩ = some (.slice (some ad2) vals.length c2) ∧ w'.cell? (ad2.add kk) = some (.string val)) (ds := [16]) #[false, false, false, false, false, false, false, false, false, false, false, false, false, false, false, false, false] (by kernel_rfl) rfl rfl ⟨(blk_cell TKd.out.bT 3).trans rfl, (blk_cell BNd.out 2).trans rfl, (seen_str R2d.out hlv).trans (by rw [HVAL.out])⟩ (fun hHeld => ?_); refine with_tabW impl_down.tab9 impl_down.bits9 (fun HT_ HW_ => ?_)
   generalize wr.drew = wd at TKd BNd R1d R2d HFd hHeld ⊢
   refine pure_ (i := 0) (N := some 77) (v := ?_) (a' := ?_) #[true, false, false, false, false, false, false, false, false, false, false, false, false, false, false, false, false] rfl rfl (any_of HT_.out (by kernel_rfl)) (fun _ _ _ h => h) (Or.inl ⟨by rfl, ?_⟩) ?_ ?_
   rotate_left
   ·intro w'
    go_simp
    with_reducible rfl
   rotate_left
   ·simp only [Act.put, List.setIfInBounds_toArray, List.set_cons_zero, List.set_cons_succ, i64_w, i32_w]
    rfl
   refine pure_ (i := 1) (N := some 78) (v := ?_) (a' := ?_) #[true, true, false, false, false, false, false, false, false, false, false, false, false, false, false, false, false] rfl rfl (any_of HT_.out (by kernel_rfl)) (fun _ _ _ h => h) (Or.inl ⟨by rfl, ?_⟩) ?_ ?_
   rotate_left
   ·intro w'
    go_simp
    with_reducible rfl
   rotate_left
   ·simp only [Act.put, List.setIfInBounds_toArray, List.set_cons_zero, List.set_cons_succ, i64_w, i32_w]
    rfl
   refine pure_ (i := 2) (N := some 79) (v := ?_) (a' := ?_) #[true, true, true, false, false, false, false, false, false, false, false, false, false, false, false, false, false] rfl rfl (any_of HT_.out (by kernel_rfl)) (fun _ _ _ h => h) (Or.inl ⟨by rfl, ?_⟩) ?_ ?_
   rotate_left
   ·intro w'
    go_simp
    with_reducible rfl
   rotate_left
   ·simp only [Act.put, List.setIfInBounds_toArray, List.set_cons_zero, List.set_cons_succ, i64_w, i32_w]
    rfl
   refine pure_ (i := 3) (N := some 80) (v := ?_) (a' := ?_) #[true, true, true, true, false, false, false, false, false, false, false, false, false, false, false, false, false] rfl rfl (any_of HT_.out (by kernel_rfl)) (fun _ _ _ h => h) (Or.inl ⟨by rfl, ?_⟩) ?_ ?_
   rotate_left
   ·intro w'
    go_simp
    with_reducible rfl
   rotate_left
   ·simp only [Act.put, List.setIfInBounds_toArray, List.set_cons_zero, List.set_cons_succ, i64_w, i32_w]
    rfl
   refine take_ (i := 4) (N := some 81) (v := ?_) (a' := ?_) #[true, true, true, true, true, false, false, false, false, false, false, false, false, false, false, false, false] rfl rfl (take_ofW HT_.out HW_.out (by kernel_rfl)) (fun _ _ _ h => h) (Or.inl ⟨by rfl, ?_⟩) hHeld ?_ ?_
   rotate_left
   ·rintro w' ⟨s0, s1, s2⟩
    go_simp
    with_reducible rfl
   rotate_left
   ·simp only [Act.put, List.setIfInBounds_toArray, List.set_cons_zero, List.set_cons_succ, i64_w, i32_w]
    rfl
   refine pure_ (i := 5) (N := some 82) (v := ?_) (a' := ?_) #[true, true, true, true, true, true, false, false, false, false, false, false, false, false, false, false, false] rfl rfl (any_of HT_.out (by kernel_rfl)) (fun _ _ _ h => h) (Or.inl ⟨by rfl, ?_⟩) ?_ ?_
   rotate_left
   ·intro w'
    go_simp
    with_reducible rfl
   rotate_left
   ·simp only [Act.put, List.setIfInBounds_toArray, List.set_cons_zero, List.set_cons_succ, i64_w, i32_w]
    rfl
   refine pure_ (i := 6) (N := some 83) (v := ?_) (a' := ?_) #[true, true, true, true, true, true, true, false, false, false, false, false, false, false, false, false, false] rfl rfl (any_of HT_.out (by kernel_rfl)) (fun _ _ _ h => h) (Or.inl ⟨by rfl, ?_⟩) ?_ ?_
   rotate_left
   ·intro w'
    go_simp
    with_reducible rfl
   rotate_left
   ·simp only [Act.put, List.setIfInBounds_toArray, List.set_cons_zero, List.set_cons_succ, i64_w, i32_w]
    rfl
   refine take_ (i := 7) (N := some 84) (v := ?_) (a' := ?_) #[true, true, true, true, true, true, true, true, false, false, false, false, false, false, false, false, false] rfl rfl (take_ofW HT_.out HW_.out (by kernel_rfl)) (fun _ _ _ h => h) (Or.inl ⟨by rfl, ?_⟩) hHeld ?_ ?_
   rotate_left
   ·rintro w' ⟨s0, s1, s2⟩
    go_simp
    with_reducible rfl
   rotate_left
   ·simp only [Act.put, List.setIfInBounds_toArray, List.set_cons_zero, List.set_cons_succ, i64_w, i32_w]
    rfl
   refine pure_ (i := 8) (N := some 85) (v := ?_) (a' := ?_) #[true, true, true, true, true, true, true, true, true, false, false, false, false, false, false, false, false] rfl rfl (any_of HT_.out (by kernel_rfl)) (fun _ _ _ h => h) (Or.inl ⟨by rfl, ?_⟩) ?_ ?_
   rotate_left
   ·intro w'
    go_simp
    with_reducible rfl
   rotate_left
   ·simp only [Act.put, List.setIfInBounds_toArray, List.set_cons_zero, List.set_cons_succ, i64_w, i32_w]
    rfl
   refine pure_ (i := 9) (N := some 86) (v := ?_) (a' := ?_) #[true, true, true, true, true, true, true, true, true, true, false, false, false, false, false, false, false] rfl rfl (any_of HT_.out (by kernel_rfl)) (fun _ _ _ h => h) (Or.inl ⟨by rfl, ?_⟩) ?_ ?_
   rotate_left
   ·intro w'
    go_simp
    with_reducible rfl
   rotate_left
   ·simp only [Act.put, List.setIfInBounds_toArray, List.set_cons_zero, List.set_cons_succ, i64_w, i32_w]
    rfl
   refine take_ (i := 10) (N := some 87) (v := ?_) (a' := ?_) #[true, true, true, true, true, true, true, true, true, true, true, false, false, false, false, false, false] rfl rfl (take_ofW HT_.out HW_.out (by kernel_rfl)) (fun _ _ _ h => h) (Or.inl ⟨by rfl, ?_⟩) hHeld ?_ ?_
   rotate_left
   ·rintro w' ⟨s0, s1, s2⟩
    go_simp
    with_reducible rfl
   rotate_left
   ·simp only [Act.put, List.setIfInBounds_toArray, List.set_cons_zero, List.set_cons_succ, i64_w, i32_w]
    rfl
   refine pure_ (i := 11) (N := some 88) (v := ?_) (a' := ?_) #[true, true, true, true, true, true, true, true, true, true, true, true, false, false, false, false, false] rfl rfl (any_of HT_.out (by kernel_rfl)) (fun _ _ _ h => h) (Or.inl ⟨by rfl, ?_⟩) ?_ ?_
   rotate_left
   ·intro w'
    go_simp
    with_reducible rfl
   rotate_left
   ·simp only [Act.put, List.setIfInBounds_toArray, List.set_cons_zero, List.set_cons_succ, i64_w, i32_w]
    rfl
   refine one_ (i := 12) (N := some 89) #[true, true, true, true, true, true, true, true, true, true, true, true, true, false, false, false, false] rfl rfl (one_of HT_.out (by kernel_rfl)) (by decide) (fun K hK => ?_)
   refine value_ (w1 := ?_) (v := ?_) (by rfl) rfl ?_ ?_
   rotate_left 2
   ·go_simp
    constructor
    ·rfl
    ·rfl
   refine hK.out _ _ ⟨(blk_cell (TKd.out.below (below_alloc (Below.refl _ _) _)).bT 3).trans rfl, (blk_cell (blk_alloc BNd.out _) 2).trans rfl, (seen_str (Kd.R_below R2d.out (below_alloc (Below.refl _ _) _)) hlv).trans (by rw [HVAL.out])⟩ (fun hHeld => ?_)
   clear hK K
   refine norm_ (a' := ?_) ?_ ?_
   rotate_left
   ·show Act.put _ (some 89) _ = _
    simp only [Act.put, List.setIfInBounds_toArray, List.set_cons_zero, List.set_cons_succ, i64_w, i32_w]
    rfl
   refine one_ (i := 13) (N := some 90) #[true, true, true, true, true, true, true, true, true, true, true, true, true, true, false, false, false] rfl rfl (one_of HT_.out (by kernel_rfl)) (by decide) (fun K hK => ?_)
   refine Kd.R_append_step k140 (w0 := w0) w0.heap.size (by rfl) (.tmp 81) (.tmp 89) 80 140 (.agg #[.string ⟨#[]⟩, .string ⟨#[]⟩]) 32 rfl Try.underlying80 info140d rfl (by decide) (by omega) (.slice Apk prk.length cpk) prk (⟨key, val⟩ : S140) [.string key, .string val] (fun _ => True) (fun _ => False) rfl rfl ?aP (fun _ hk => hk.elim) ?aF ?aO ?aB ?aS ?aL ?_
   (case aP => exact k140_mkM _ _ _ _)
   (case aF => exact (fun _ _ => trivial))
   (case aO => exact TKd.out.rp)
   (case aB => exact TKd.out.bel)
   (case aS => exact TKd.out.bel.size)
   (case aL => have := HLQ.out; omega)
   intro va wa ho hb hgr hat
   have ba := Aside0.mk (blk_grown TKd.out.bT hgr (Kd.R_ne TKd.out.rp TKd.out.bT (by decide)))
   have bna := Aside0.mk (blk_grown BNd.out hgr (Kd.R_ne TKd.out.rp BNd.out (by decide)))
   have r2a := Aside0.mk (Kd.R_over' R2d.out (Kd.R_typed TKd.out.rp) (by decide) hgr)
   rw [← HKS3.out] at ho
   obtain ⟨Ao3, co3, eo⟩ := Kd.R_slice ho
   subst eo
   have TT := Aside0.mk (TKd.out.pushPr (layI _ _) (by decide) ho hb hgr hat)
   clear ho hb hgr hat
   refine hK.out _ _ ⟨(blk_cell ba.out 3).trans rfl, (blk_cell bna.out 2).trans rfl, (seen_str r2a.out hlv).trans (by rw [HVAL.out])⟩ (fun hHeld => ?_)
   clear hK K
   refine norm_ (a' := ?_) ?_ ?_
   rotate_left
   ·show Act.put _ (some 90) _ = _
    simp only [Act.put, List.setIfInBounds_toArray, List.set_cons_zero, List.set_cons_succ, i64_w, i32_w]
    rfl
   refine pure_ (i := 14) (N := some 91) (v := ?_) (a' := ?_) #[true, true, true, true, true, true, true, true, true, true, true, true, true, true, true, false, false] rfl rfl (any_of HT_.out (by kernel_rfl)) (fun _ _ _ h => h) (Or.inl ⟨by rfl, ?_⟩) ?_ ?_
   rotate_left
   ·intro w'
    go_simp
    with_reducible rfl
   rotate_left
   ·simp only [Act.put, List.setIfInBounds_toArray, List.set_cons_zero, List.set_cons_succ, i64_w, i32_w]
    rfl
   refine pure_ (i := 15) (N := some 92) (v := ?_) (a' := ?_) #[true, true, true, true, true, true, true, true, true, true, true, true, true, true, true, true, false] rfl rfl (any_of HT_.out (by kernel_rfl)) (fun _ _ _ h => h) (Or.inl ⟨by rfl, ?_⟩) ?_ ?_
   rotate_left
   ·intro w'
    go_simp
    with_reducible rfl
   rotate_left
   ·simp only [Act.put, List.setIfInBounds_toArray, List.set_cons_zero, List.set_cons_succ, i64_w, i32_w]
    rfl
   refine last_ (i := 16) (N := none) #[true, true, true, true, true, true, true, true, true, true, true, true, true, true, true, true, true] rfl rfl (one_of HT_.out (by kernel_rfl)) (by decide) (fun K hK => ?_)
   have hs1 : wa.cell? ⟨g, 3, none⟩ = some (.slice Apk prk.length cpk) := (blk_cell ba.out 3).trans rfl
   have hf1 := blk_frozen ba.out 3
   refine skip_ (w1 := ?_) (by rfl) rfl ?_ ?_
   rotate_left
   ·go_simp
    rfl
   refine hK.out _ _ ?_
   clear hK K
   refine done_ (done_of HT_.out (by kernel_rfl)) ?_
   clear ba bna r2a hs1 hf1 hHeld
   generalize hwx : wa.setCell ⟨g, 3, none⟩ _ = w7 at TT ⊢
   clear hwx
   obtain ⟨TT1, TT2⟩ := TT.out
   have T7 := Aside0.mk TT1
   have HF7 := Aside0.mk (HFd.out.trans TT2)
   have BN7 := Aside0.mk (blk_fr TT2 TKd.out BNd.out (by decide))
   have R17 := Aside0.mk (R9_fr TT2 TKd.out (by decide) R1d.out)
   have R27 := Aside0.mk (R9_fr TT2 TKd.out (by decide) R2d.out)
   clear TT TT1 TT2 TKd BNd R1d R2d HFd
   go_wp2
   have hw : wrap64 ((kk : Int) + 1) = ((kk + 1 : Nat) : Int) := by unfold wrap64; omega
   have hpn : prn = pr ++ pairsTo keys vals (kk + 1) := by rw [pairsTo_succ, ← List.append_assoc, ← HPRK.out, HPAIR.out]; exact HKS3.out
   have HW := Aside0.mk hw
   have HPN := Aside0.mk hpn
   clear hw hpn
   go_roundg (keys.length - (kk + 1))
   case measure => omega
   case rel => exact ⟨kk + 1, Ao3, co3, by omega, by omega, by first | rfl | exact congrArg (Value.int .i64) HW.out, by rw [← HPN.out]; exact T7, BN7, R17, R27, by rw [← HPN.out]; exact HF7⟩
  ·have hltz : ¬ (kk : Int) < (keys.length : Int) := by omega
   have : kk = keys.length := by omega
   subst this
   go_wp2
   refine bodyPost_ret (results_list (rs := []) (vs := []) rfl (by simp) Vals.nil) rfl ?_
   rw [← HKS1.out, ← HKS2.out]
   exact ⟨rfl, _, _, _, _, _, _, TK.out, HFK.out⟩
def impl_down.T18 : Bool × List (List Nat × List Nat) := (true, [([], []), ([], []), ([1], [1]), ([2], [2]), ([3], [3]), ([4], [4]), ([5], [5]), ([6, 5], [5, 6]), ([7, 5], [5, 7]), ([8, 5], [5, 8]), ([5], [5]), ([9, 10, 5], [5, 9, 10]), ([5], [5]), ([12, 5], [5, 12]), ([5], [5]), ([13, 14, 5], [5, 13, 14]), ([15, 5], [5, 15]), ([11, 16, 5, 5], [5, 11, 16]), ([17, 5], [5, 17]), ([5, 18], [5, 18]), ([19, 17], [19]), ([20], [20]), ([21, 20], [20, 21]), ([22, 20], [20, 22]), ([23, 20], [20, 23]), ([20], [20]), ([20], [20]), ([24, 25, 26, 20], [20, 24, 25, 26]), ([20], [20]), ([28, 20], [20, 28]), ([20], [20]), ([29, 30, 20], [20, 29, 30]), ([31, 20], [20, 31]), ([27, 32, 20, 20], [20, 27, 32]), ([33, 20], [20, 33]), ([20, 34], [20, 34]), ([0, 0, 1, 2, 3, 4, 5, 6, 7, 8, 9, 10, 11, 12, 13, 14, 15, 16, 17, 18, 19, 20, 21, 22, 23, 24, 25, 26, 27, 28, 29, 30, 31, 32, 33, 34, 35], [0]), ([36, 0, 1, 2, 3, 4, 5, 6, 7, 8, 9, 10, 11, 12, 13, 14, 15, 16, 17, 18, 19, 20, 21, 22, 23, 24, 25, 26, 27, 28, 29, 30, 31, 32, 33, 34, 35], [36]), ([37, 35, 33, 0, 1, 2, 3, 4, 5, 6, 7, 8, 9, 10, 11, 12, 13, 14, 15, 16, 17, 18, 19, 20, 21, 22, 23, 24, 25, 26, 27, 28, 29, 30, 31, 32, 33, 34, 35], [35, 37])])
def impl_down.B18 : List Nat := [0, 0, 2, 6, 14, 30, 62, 126, 254, 510, 62, 2046, 62, 4158, 62, 28734, 61502, 131070, 262142, 524286, 1048574, 2097150, 4194302, 8388606, 16777214, 2097150, 2097150, 134217726, 2097150, 270532606, 2097150, 1881145342, 4028628990, 8589934590, 17179869182, 34359738366, 68719476735, 137438953471, 274877906943]
theorem impl_down.tab18 : rtab .any (opsOf Try.f142 18) = impl_down.T18 := by kernel_rfl
theorem impl_down.bits18 : waitsOk impl_down.T18.2 impl_down.B18 = true := by kernel_rfl
theorem keyBelow_cut (A : Option Addr) (c m : Nat) (xs : List S140) (hm : m ≤ xs.length) (hc : xs.length ≤ c) : ∃ A', (∀ W : World, (Instr.slice 80 (.slice A xs.length c) (some (.int .i64 (m : Int))) none none).run Try.prog W = .ok (.slice A' (xs.length - m) (c - m)) W) ∧
  ∀ (W : World) (key : ByteArray) (r : Bool), Kd.C k140 W A xs.length xs → (xs.drop m).any (belowK key) = r → Calls Try.prog 161 #[.slice A' (xs.length - m) (c - m), .string key] W fun e w' => e = .returned (.bool r) ∧ Below W.heap.size W w' := by
 obtain ⟨i0, hi0, hz⟩ := Option.map_eq_some_iff.1 info140d
 simp only [Prod.mk.injEq] at hz
 refine ⟨if c = m then A else A.map (·.add (m * 2)), ?_, ?_⟩
 ·intro W
  have h := cut_from (P := Try.prog) 80 140 .i64 Try.underlying80 hi0 2 hz.2.1 A xs.length c (m : Int) (by omega) (by omega) W
  simp only [Int.toNat_natCast] at h
  exact h
 ·intro W key r hC hr
  have h := keyBelow_calls (if c = m then A else A.map (·.add (m * 2))) (c - m) (xs.drop m) key r W (Kd.C_drop hC hm hc) hr
  rw [List.length_drop] at h
  exact h
theorem keyFrom_cut (A : Option Addr) (c lo hi : Nat) (xs : List S140) (h1 : lo ≤ hi) (h2 : hi ≤ xs.length) (hc : xs.length ≤ c) : ∃ A', (∀ W : World, (Instr.slice 80 (.slice A xs.length c) (some (.int .i64 (lo : Int))) (some (.int .i64 (hi : Int))) none).run Try.prog W = .ok (.slice A' (hi - lo) (c - lo)) W) ∧
  ∀ (W : World) (key : ByteArray) (r : Bool), Kd.C k140 W A xs.length xs → (((xs.take hi).drop lo).any fun x => !(belowK key x)) = r → Calls Try.prog 162 #[.slice A' (hi - lo) (c - lo), .string key] W fun e w' => e = .returned (.bool r) ∧ Below W.heap.size W w' := by
 obtain ⟨i0, hi0, hz⟩ := Option.map_eq_some_iff.1 info140d
 simp only [Prod.mk.injEq] at hz
 refine ⟨if c = lo then A else A.map (·.add (lo * 2)), ?_, ?_⟩
 ·intro W
  have h := cut_mid (P := Try.prog) 80 140 .i64 .i64 Try.underlying80 hi0 2 hz.2.1 A xs.length c (lo : Int) (hi : Int) (by omega) (by omega) (by omega) hc W
  simp only [Int.toNat_natCast] at h
  exact h
 ·intro W key r hC hr
  have h := keyFrom_calls (if c = lo then A else A.map (·.add (lo * 2))) (c - lo) ((xs.take hi).drop lo) key r W (Kd.C_mid hC h1 h2 hc) hr
  rw [List.length_drop, List.length_take, Nat.min_eq_left h2] at h
  exact h
theorem seen_int {W : World} {e base : Nat} {ok : Nat → Prop} {ad : Addr} {c : Nat} {xs : List Int} (h : Kd.R (Kd.int .i64) e W base ok (.slice (some ad) xs.length c) xs) {k : Nat} (hk : k < xs.length) : W.cell? (ad.add k) = some (.int .i64 xs[k]) := by
 obtain ⟨ad', e', hc⟩ := Kd.at_int (R_seen h).2 (k : Int) (by omega) (by omega)
 injection e' with e'
 subst e'
 rw [rd_nat _ _ hk, Int.toNat_natCast] at hc
 exact hc
theorem calls_arg {P : Program} {f : Nat} {a b : Value} {d d' : Int} {w : World} {post : Ending → World → Prop} (h : Calls P f #[a, b, .int .i64 d] w post) (e : d' = d) : Calls P f #[a, b, .int .i64 d'] w post := by subst e; exact h
set_option maxHeartbeats 32000000 in
set_option maxRecDepth 100000 in
theorem down_branch (AP : Option Addr) (cP : Nat) (pages : List ByteArray) (AL : Option Addr) (cL : Nat) (late : List S189) (w0 : World) (hP : Kd.C Kd.string w0 AP pages.length pages) (hcP : pages.length ≤ cP) (hL : Kd.C k189 w0 AL late.length late) (hcL : late.length ≤ cL) (rn : Int → S68 × Bool) (hrn : RnI pages late rn) (g : Nat) (st : TSt) (page deep : Int) (w : World) (Ag : Option Addr) (cg : Nat) (Ap : Option Addr) (cp : Nat) (Ad : Option Addr) (cd : Nat) (hT : TInv (cellsI (.slice AP pages.length cP) (.slice AL late.length cL)) 146 w0 w g (.slice Ag st.pg.length cg) (.slice Ap st.pr.length cp) (.slice Ad st.dp.length cd) st.order st.bad st.pg st.pr st.dp) (f N : Nat) (hrec : ∀ (s' : TSt) (kid : Int) (W : World) (Ag' : Option Addr) (cg' : Nat) (Ap' : Option Addr) (cp' : Nat) (Ad' : Option Addr) (cd' : Nat), s'.pg.length + N ≤ 1000000 → s'.pr.length + 4 * N ≤ 1000000 → s'.dp.length + N ≤ 1000000 → TInv (cellsI (.slice AP pages.length cP) (.slice AL late.length cL)) 146 w0 W g (.slice Ag' s'.pg.length cg') (.slice Ap' s'.pr.length cp') (.slice Ad' s'.dp.length cd') s'.order s'.bad s'.pg s'.pr s'.dp →
   Calls Try.prog 142 #[.pointer (some ⟨g, 0, none⟩), .int .i64 kid, .int .i64 (deep + 1)] W (DownPost (cellsI (.slice AP pages.length cP) (.slice AL late.length cL)) 146 w0 W g (.slice Ag' s'.pg.length cg') (.slice Ap' s'.pr.length cp') (.slice Ad' s'.dp.length cd') (dn rn f s' kid (deep + 1))))
  (hlen : ∀ s' kid, (dn rn f s' kid (deep + 1)).pg.length ≤ s'.pg.length + N ∧ s'.pr.length ≤ (dn rn f s' kid (deep + 1)).pr.length ∧ (dn rn f s' kid (deep + 1)).pr.length ≤ s'.pr.length + 4 * N ∧ (dn rn f s' kid (deep + 1)).dp.length ≤ s'.dp.length + N)
  (hbad : st.bad = false) (hok : (rn page).2 = true) (hd0 : 1 ≤ deep) (hd : deep ≤ 8) (hcon : st.pg.contains page = false) (hleaf : (rn page).1.f0 = false) (hlg : st.pg.length + 1 + 4 * N ≤ 1000000) (hlp : st.pr.length + 4 * (4 * N) ≤ 1000000) (hld : st.dp.length + 4 * N ≤ 1000000) :
  Calls Try.prog 142 #[.pointer (some ⟨g, 0, none⟩), .int .i64 page, .int .i64 deep] w (DownPost (cellsI (.slice AP pages.length cP) (.slice AL late.length cL)) 146 w0 w g (.slice Ag st.pg.length cg) (.slice Ap st.pr.length cp) (.slice Ad st.dp.length cd) (dnKids (fun s k => dn rn f s k (deep + 1)) (rn page).1.f1 (rn page).1.f3 st.pr.length 0 (rn page).1.f3.length ⟨st.pg ++ [page], st.pr, st.dp, st.order, st.bad⟩)) := by
 obtain ⟨s, ⟨k, hs⟩, hnode, hcase⟩ := hrn page
 have HS := Aside0.mk hs
 have HN := Aside0.mk hnode
 have HP := Aside0.mk hP
 have HL := Aside0.mk hL
 have HCASE := Aside0.mk hcase
 have HRN := Aside0.mk hrn
 have T0 := Aside0.mk hT
 obtain ⟨pg, pr, dp, order, bad⟩ := st
 obtain ⟨n, hn⟩ : ∃ n, (rn page).1 = n := ⟨_, rfl⟩
 obtain ⟨ok, hok⟩ : ∃ ok, (rn page).2 = ok := ⟨_, rfl⟩
 have HNN := Aside0.mk (And.intro hn hok)
 rw [hn, hok] at HN HCASE
 obtain ⟨leaf, keys, vals, kids⟩ := n
 simp only at T0
 clear hs hnode hP hL hcase hrn hT hn hok
 have hg := blk_lt T0.out.bT
 have ct0 : w.cell? ⟨g, 0, none⟩ = some (.slice AP pages.length cP) := (blk_cell T0.out.bT 0).trans rfl
 have ct1 : w.cell? ⟨g, 1, none⟩ = some (.slice AL late.length cL) := (blk_cell T0.out.bT 1).trans rfl
 rw [HNN.out.1] at hleaf ⊢
 simp only at hbad hcon hlg hlp hld hleaf ⊢
 subst hleaf
 have HREC := Aside0.mk hrec
 have HLEN := Aside0.mk hlen
 have HWD := Aside0.mk (show wrap64 (deep + 1) = deep + 1 by unfold wrap64; omega)
 clear hrec hlen
 subst hbad
 rw [HNN.out.2] at hok
 subst hok
 have hd1 : decide (8 < deep) = false := decide_eq_false (by omega)
 have hnk : nodeOkB false keys vals kids = true := by
  rcases HCASE.out with h | h
  ·exact h.2
  ·cases h.1
 obtain ⟨hshape, hcond⟩ := (nodeOk_iff _ _ _ _).1 hnk
 obtain ⟨kc, hkc⟩ := contains_ev pg page false hcon (R_seen T0.out.rg).2.2.1
 have HKC := Aside0.mk hkc
 have HLG := Aside0.mk hlg
 have HLP := Aside0.mk hlp
 have HLD := Aside0.mk hld
 obtain ⟨ks1, hks⟩ : ∃ z, z = pg ++ [page] := ⟨_, rfl⟩
 have HKS1 := Aside0.mk hks
 clear hd hcon hkc hnk hlg hlp hld hks hcond
 have HVK := Aside0.mk (hshape.2.2 rfl).1
 have hkl : kids.length ≤ 4 := by have := hshape.1.2; have := (hshape.2.2 rfl).1; omega
 clear hshape
 obtain ⟨RES, hres⟩ : ∃ z, z = dnKids (fun s k => dn rn f s k (deep + 1)) keys kids pr.length 0 kids.length ⟨ks1, pr, dp, order, false⟩ := ⟨_, rfl⟩
 have HRES := Aside0.mk hres
 rw [← HKS1.out, ← hres]
 clear hres
 go_enter Try.func142, Try.ntmps142
 go_wp2_with fail
 ((with_reducible refine (impl_ReadPage.calls k AP cP pages AL cL late page s _ (Kd.C_below HP.out T0.out.bel) hcP (Kd.C_below HL.out T0.out.bel) hcL HS.out).mono ?_); rintro e w1 ⟨rfl, hb1⟩)
 have T1 := Aside0.mk (T0.out.below hb1)
 obtain ⟨hc1, hf1⟩ := bcell hb1
 have HB1 := Aside0.mk hb1
 clear hb1
 go_wp2_with fail
 ((with_reducible refine (HN.out _).mono ?_); rintro e w2 ⟨A1, c1, A2, c2, A3, c3, rfl, r1, r2, r3, hb2⟩)
 have T3 := Aside0.mk ((T1.out.below hb2).alloc (.cells #[.bool false, .slice A1 keys.length c1, .slice A2 vals.length c2, .slice A3 kids.length c3] 68))
 have HB2 := Aside0.mk (show Below w.heap.size w w2 from below_step HB1.out hb2)
 have BN := Aside0.mk (blk_new w2 (.cells #[.bool false, .slice A1 keys.length c1, .slice A2 vals.length c2, .slice A3 kids.length c3] 68))
 have R1 := Aside0.mk (Kd.R_lower (base' := w0.heap.size) (Kd.R_below r1 (below_alloc (Below.refl _ _) (.cells #[.bool false, .slice A1 keys.length c1, .slice A2 vals.length c2, .slice A3 kids.length c3] 68))) T1.out.bel.size)
 have R2 := Aside0.mk (Kd.R_lower (base' := w0.heap.size) (Kd.R_below r2 (below_alloc (Below.refl _ _) (.cells #[.bool false, .slice A1 keys.length c1, .slice A2 vals.length c2, .slice A3 kids.length c3] 68))) T1.out.bel.size)
 have R3 := Aside0.mk (Kd.R_lower (base' := w0.heap.size) (Kd.R_below r3 (below_alloc (Below.refl _ _) (.cells #[.bool false, .slice A1 keys.length c1, .slice A2 vals.length c2, .slice A3 kids.length c3] 68))) T1.out.bel.size)
 have HF3 := Aside0.mk ((TFr.refl w g (.slice Ag pg.length cg) (.slice Ap pr.length cp) (.slice Ad dp.length cd)).below (below_alloc HB2.out (.cells #[.bool false, .slice A1 keys.length c1, .slice A2 vals.length c2, .slice A3 kids.length c3] 68)))
 have hne : NeRow (.slice A1 keys.length c1) (.slice Ag pg.length cg) ∧ NeRow (.slice A3 kids.length c3) (.slice Ag pg.length cg) ∧ NeRow (.slice A3 kids.length c3) (.slice Ad dp.length cd) := ⟨ne_fresh r1 T1.out.rg, ne_fresh r3 T1.out.rg, ne_fresh r3 T1.out.rd⟩
 have HNE := Aside0.mk hne
 have hsz := Aside0.mk (show w.heap.size ≤ w2.heap.size from HB2.out.size)
 clear r1 r2 r3 hb2 hc1 hf1 ct0 ct1 T1 hne
 go_upto_region 1 with (fail)
 have hgN := Aside0.mk (blk_lt BN.out)
 generalize hw3 : w2.alloc (.cells #[.bool false, .slice A1 keys.length c1, .slice A2 vals.length c2, .slice A3 kids.length c3] 68) = w3 at T3 BN R1 R2 R3 HF3 hgN ⊢
 clear hw3
 obtain ⟨gN, hgn⟩ : ∃ gN, w2.heap.size = gN := ⟨_, rfl⟩
 rw [hgn] at BN hsz hgN ⊢
 clear hgn
 have hgl := blk_lt T3.out.bT
 have hf2 := blk_frozen T3.out.bT
 have hd2 : w3.cell? ⟨g, 2, none⟩ = some (.slice Ag pg.length cg) := (blk_cell T3.out.bT 2).trans rfl
 have hd3 : w3.cell? ⟨g, 3, none⟩ = some (.slice Ap pr.length cp) := (blk_cell T3.out.bT 3).trans rfl
 have hd4 : w3.cell? ⟨g, 4, none⟩ = some (.slice Ad dp.length cd) := (blk_cell T3.out.bT 4).trans rfl
 have hd5 : w3.cell? ⟨g, 5, none⟩ = some (.bool order) := (blk_cell T3.out.bT 5).trans rfl
 have hd6 : w3.cell? ⟨g, 6, none⟩ = some (.bool false) := (blk_cell T3.out.bT 6).trans rfl
 go_wp2_with fail
 ((with_reducible refine (slices_Contains_int_int.calls kc Ag cg pg page false _ (R_seen T3.out.rg).2 (R_seen T3.out.rg).1 HKC.out).mono ?_); rintro e w4 ⟨rfl, nd4, rfl⟩)
 have T4 := Aside0.mk (T3.out.below (Drawn0.below ⟨nd4, rfl⟩))
 have BN4 := Aside0.mk (blk_below BN.out (Drawn0.below ⟨nd4, rfl⟩))
 have R14 := Aside0.mk (Kd.R_below R1.out (Drawn0.below ⟨nd4, rfl⟩))
 have R24 := Aside0.mk (Kd.R_below R2.out (Drawn0.below ⟨nd4, rfl⟩))
 have R34 := Aside0.mk (Kd.R_below R3.out (Drawn0.below ⟨nd4, rfl⟩))
 have HF4 := Aside0.mk (HF3.out.below (Drawn0.below ⟨nd4, rfl⟩))
 clear T3 BN R1 R2 R3 HF3
 generalize w3.drewN nd4 = w4 at T4 BN4 R14 R24 R34 HF4 ⊢
 have hgl4 := blk_lt T4.out.bT
 have hd24 : w4.cell? ⟨g, 2, none⟩ = some (.slice Ag pg.length cg) := (blk_cell T4.out.bT 2).trans rfl
 clear hf2 hd2 hd3 hd4 hd5 hd6 hgl
 go_upto_region 4 with (((with_reducible refine gate_builtin (b := .append) (xs := #[.tmp 51, .tmp 53]) rfl ?_); at_builtin; refine Kd.R_append (Kd.int .i64) (w0 := w0) w0.heap.size rfl (.tmp 51) (.tmp 53) 30 3 (.int .i64 0) 8 rfl Try.underlying30 info3d rfl (by decide) (by omega) (.slice Ag pg.length cg) pg page [.int .i64 page] (fun _ => True) (fun _ => False) rfl rfl ?aP (fun _ hk => hk.elim) ?aF ?aO ?aB ?aS ?aL ?_; (case aP => exact rfl); (case aF => exact (fun _ _ => trivial)); (case aO => exact T4.out.rg); (case aB => exact T4.out.bel); (case aS => exact T4.out.bel.size); (case aL => have := HLG.out; omega); intro va wa ho hb hgr hat; rw [← HKS1.out] at ho; obtain ⟨Ao1, co1, eo⟩ := Kd.R_slice ho; subst eo; have ba := Aside0.mk (blk_grown T4.out.bT hgr (Kd.R_ne T4.out.rg T4.out.bT (by decide))); have hsa : wa.cell? ⟨g, 2, none⟩ = some (.slice Ag pg.length cg) := (blk_cell ba.out 2).trans rfl; have hfa := blk_frozen ba.out; have hla := blk_lt ba.out; have TT := Aside0.mk (T4.out.pushPg (layI _ _) (by decide) ho hb hgr hat); clear ho hb hgr hat))
 clear hsa hfa hla ba hd24 hgl4
 generalize hwx : wa.setCell ⟨g, 2, none⟩ _ = w5 at TT ⊢
 clear hwx
 obtain ⟨TT1, TT2⟩ := TT.out
 have T5 := Aside0.mk TT1
 have HF5 := Aside0.mk (HF4.out.trans TT2)
 have BN5 := Aside0.mk (blk_fr TT2 T4.out BN4.out (by decide))
 have R15 := Aside0.mk (R9_fr TT2 T4.out (by decide) R14.out)
 have R25 := Aside0.mk (R9_fr TT2 T4.out (by decide) R24.out)
 have R35 := Aside0.mk (R3_fr TT2 T4.out (by decide) R34.out HNE.out.2.1 HNE.out.2.2)
 clear TT TT1 TT2 T4 BN4 R14 R24 R34 HF4
 have hgl5 := blk_lt T5.out.bT
 have hd35 : w5.cell? ⟨g, 3, none⟩ = some (.slice Ap pr.length cp) := (blk_cell T5.out.bT 3).trans rfl
 have hn05 : w5.cell? ⟨gN, 0, none⟩ = some (.bool false) := (blk_cell BN5.out 0).trans rfl
 have hn35 : w5.cell? ⟨gN, 3, none⟩ = some (.slice A3 kids.length c3) := (blk_cell BN5.out 3).trans rfl
 go_wp2_with fail
 clear hgl5 hd35 hn05 hn35
 go_loopg [102] kids.length (fun gg s102 wr => ∃ (kk : Nat) (sti : TSt) (Agk : Option Addr) (cgk : Nat) (Apk : Option Addr) (cpk : Nat) (Adk : Option Addr) (cdk : Nat), kk ≤ kids.length ∧ kids.length - kk ≤ gg ∧ s102 = .int .i64 kk ∧ Aside0 (TInv (cellsI (.slice AP pages.length cP) (.slice AL late.length cL)) 146 w0 wr g (.slice Agk sti.pg.length cgk) (.slice Apk sti.pr.length cpk) (.slice Adk sti.dp.length cdk) sti.order false sti.pg sti.pr sti.dp) ∧ Aside0 (wr.heap[gN]? = some (.cells #[.bool false, .slice A1 keys.length c1, .slice A2 vals.length c2, .slice A3 kids.length c3] 68 (0, 0))) ∧
   Aside0 (Kd.R Kd.string 9 wr w0.heap.size (fun _ => True) (.slice A1 keys.length c1) keys) ∧ Aside0 (Kd.R (Kd.int .i64) 3 wr w0.heap.size (fun _ => True) (.slice A3 kids.length c3) kids ∧ NeRow (.slice A3 kids.length c3) (.slice Agk sti.pg.length cgk) ∧ NeRow (.slice A3 kids.length c3) (.slice Adk sti.dp.length cdk)) ∧ Aside0 (TFr w wr g (.slice Ag pg.length cg) (.slice Ap pr.length cp) (.slice Ad dp.length cd) (.slice Agk sti.pg.length cgk) (.slice Apk sti.pr.length cpk) (.slice Adk sti.dp.length cdk)) ∧
   Aside0 (dnKids (fun s k => dn rn f s k (deep + 1)) keys kids pr.length kk (kids.length - kk) sti = RES) ∧ Aside0 (sti.bad = false ∧ pr.length ≤ sti.pr.length ∧ sti.pg.length ≤ pg.length + 1 + kk * N ∧ sti.pr.length ≤ pr.length + kk * (4 * N) ∧ sti.dp.length ≤ dp.length + kk * N))
 case atStart =>
  exact ⟨0, ⟨ks1, pr, dp, order, false⟩, Ao1, co1, Ap, cp, Ad, cd, Nat.zero_le _, by omega, rfl, T5, BN5, R15, R35, HF5, ⟨HRES.out.symm⟩, ⟨rfl, Nat.le_refl _, by show ks1.length ≤ _; rw [HKS1.out]; simp, by simp, by simp⟩⟩
 case round =>
  clear T5 BN5 R15 R25 R35 HF5
  obtain ⟨kk, sti, Agk, cgk, Apk, cpk, Adk, cdk, hkk, hgg, rfl, TK, BNK, R1K, R3K, HFK, HRK, HLK⟩ := hrel
  by_cases hlt : kk < kids.length
  ·have hltz : (kk : Int) < (kids.length : Int) := by omega
   have hlk : kk < keys.length := by have := HVK.out; omega
   have hlkz : (kk : Int) < (keys.length : Int) := by omega
   obtain ⟨ad1, rfl⟩ := some_ad R1K.out (by omega)
   obtain ⟨ad3, rfl⟩ := some_ad R3K.out.1 (by omega)
   have hk3 := seen_int R3K.out.1 hlt
   obtain ⟨key, hkey⟩ : ∃ key, keys[kk] = key := ⟨_, rfl⟩
   obtain ⟨kid, hkid⟩ : ∃ kid, kids[kk] = kid := ⟨_, rfl⟩
   rw [hkid] at hk3
   have HKEY := Aside0.mk (show keys.getD kk ByteArray.empty = key by rw [List.getD_eq_getElem?_getD, List.getElem?_eq_getElem hlk, Option.getD_some, hkey])
   have HKID := Aside0.mk (show kids.getD kk 0 = kid by rw [List.getD_eq_getElem?_getD, List.getElem?_eq_getElem hlt, Option.getD_some, hkid])
   have HKEY2 := Aside0.mk hkey
   obtain ⟨pgi, pri, dpi, ordi, badi⟩ := sti
   simp only at TK R3K HFK HLK
   obtain rfl : badi = false := HLK.out.1
   obtain ⟨hm1, hm2, hm3, hm4⟩ := HLK.out.2
   have hkN : kk * N ≤ 3 * N := Nat.mul_le_mul_right _ (by omega)
   have hkN4 : kk * (4 * N) ≤ 3 * (4 * N) := Nat.mul_le_mul_right _ (by omega)
   have hq1 : pgi.length + N ≤ 1000000 := by have := HLG.out; omega
   have hq2 : pri.length + 4 * N ≤ 1000000 := by have := HLP.out; omega
   have hq3 : dpi.length + N ≤ 1000000 := by have := HLD.out; omega
   have HQ := Aside0.mk (And.intro hq1 (And.intro hq2 hq3))
   have HLN := Aside0.mk (HLEN.out ⟨pgi, pri, dpi, ordi, false⟩ kid)
   have HSTEP := Aside0.mk (show dnKids (fun s k => dn rn f s k (deep + 1)) keys kids pr.length kk (kids.length - (kk + 1) + 1) ⟨pgi, pri, dpi, ordi, false⟩ = RES by rw [show kids.length - (kk + 1) + 1 = kids.length - kk by omega]; exact HRK.out)
   have hgK := blk_lt TK.out.bT
   have hd3K : wr.cell? ⟨g, 3, none⟩ = some (.slice Apk pri.length cpk) := (blk_cell TK.out.bT 3).trans rfl
   clear hkey hkid hm1 hm2 hm3 hm4 hkN hkN4 hq1 hq2 hq3 HRK
   go_wp2_with fail
   ((with_reducible refine (calls_arg (HREC.out ⟨pgi, pri, dpi, ordi, false⟩ kid _ Agk cgk Apk cpk Adk cdk HQ.out.1 HQ.out.2.1 HQ.out.2.2 TK.out) HWD.out).mono ?_); rintro e w6 ⟨rfl, Agn, cgn, Apn, cpn, Adn, cdn, TN, FN⟩)
   have TN' := Aside0.mk TN
   have FN' := Aside0.mk FN
   clear TN FN
   obtain ⟨sn, hsn⟩ : ∃ z, dn rn f ⟨pgi, pri, dpi, ordi, false⟩ kid (deep + 1) = z := ⟨_, rfl⟩
   have HSN := Aside0.mk hsn
   rw [hsn] at TN' FN' HLN
   clear hsn
   obtain ⟨pgn, prn, dpn, ordn, badn⟩ := sn
   simp only at TN' FN' HLN
   have BN6 := Aside0.mk (blk_fr FN'.out TK.out BNK.out (by decide))
   have R16 := Aside0.mk (R9_fr FN'.out TK.out (by decide) R1K.out)
   have R36 := Aside0.mk (R3_fr FN'.out TK.out (by decide) R3K.out.1 R3K.out.2.1 R3K.out.2.2)
   have HF6 := Aside0.mk (HFK.out.trans FN'.out)
   clear TK BNK R1K R3K HFK FN' hk3 hd3K hgK
   have hg6 := blk_lt TN'.out.bT
   cases hbn : badn with
   | true =>
    subst hbn
    have hd66 : w6.cell? ⟨g, 6, none⟩ = some (.bool true) := (blk_cell TN'.out.bT 6).trans rfl
    have HE := Aside0.mk (show (⟨pgn, prn, dpn, ordn, true⟩ : TSt) = RES by
     rw [← HSTEP.out, dnKids, HKID.out, HSN.out, if_pos rfl])
    go_wp2
    refine bodyPost_ret (results_list (rs := []) (vs := []) rfl (by simp) Vals.nil) rfl ?_
    rw [← HE.out]
    exact ⟨rfl, _, _, _, _, _, _, TN'.out, HF6.out⟩
   | false =>
    subst hbn
    have hd66 : w6.cell? ⟨g, 6, none⟩ = some (.bool false) := (blk_cell TN'.out.bT 6).trans rfl
    obtain ⟨bl, hbl⟩ : ∃ z, (prn.drop pri.length).any (belowK key) = z := ⟨_, rfl⟩
    obtain ⟨fr, hfr⟩ : ∃ z, (((prn.take pri.length).drop pr.length).any fun x => !(belowK key x)) = z := ⟨_, rfl⟩
    have HBL := Aside0.mk hbl
    have HFR := Aside0.mk hfr
    clear hbl hfr
    have HE := Aside0.mk (show dnKids (fun s k => dn rn f s k (deep + 1)) keys kids pr.length (kk + 1) (kids.length - (kk + 1)) ⟨pgn, prn, dpn, ordn && !bl && !fr, false⟩ = RES by
     rw [← HSTEP.out, dnKids, HKID.out, HSN.out, if_neg (by simp), HKEY.out]
     simp only
     rw [HBL.out, HFR.out])
    obtain ⟨Ac1, hcut1, hcall1⟩ := keyBelow_cut Apn cpn pri.length prn HLN.out.2.1 (R_seen TN'.out.rp).1
    obtain ⟨Ac2, hcut2, hcall2⟩ := keyFrom_cut Apn cpn pr.length pri.length prn HLK.out.2.1 HLN.out.2.1 (R_seen TN'.out.rp).1
    have HC1 := Aside0.mk hcall1
    have HC2 := Aside0.mk hcall2
    clear hcall1 hcall2
    have hlpr : pr.length ≤ pri.length := HLK.out.2.1
    have hlpr2 : pri.length ≤ prn.length := HLN.out.2.1
    go_wp2_with fail
    cases hor : ordn with
    | false =>
     subst hor
     have Td := Aside0.mk TN'.out.drew
     have Bd := Aside0.mk (blk_below BN6.out (Below.refl _ _).drew)
     have Rd1 := Aside0.mk (Kd.R_below R16.out (Below.refl _ _).drew)
     have Rd3 := Aside0.mk (And.intro (Kd.R_below R36.out.1 (Below.refl _ _).drew) R36.out.2)
     have Fd := Aside0.mk (HF6.out.below (Below.refl _ _).drew)
     clear TN' BN6 R16 R36 HF6 hd66 hg6
     refine start_ (n := 39) (S := fun w' => w'.cell? ⟨g, 5, none⟩ = some (.bool false) ∧ w'.cell? ⟨g, 3, none⟩ = some (.slice Apn prn.length cpn) ∧ w'.cell? ⟨gN, 1, none⟩ = some (.slice (some ad1) keys.length c1) ∧ w'.cell? (ad1.add kk) = some (.string key)) (ds := [38]) #[false, false, false, false, false, false, false, false, false, false, false, false, false, false, false, false, false, false, false, false, false, false, false, false, false, false, false, false, false, false, false, false, false, false, false, false, false, false, false] (by kernel_rfl) rfl rfl ⟨(blk_cell Td.out.bT 5).trans rfl, (blk_cell Td.out.bT 3).trans rfl, (blk_cell Bd.out 1).trans rfl, (seen_str Rd1.out hlk).trans (by rw [HKEY2.out])⟩ (fun hHeld => ?_); refine with_tabW impl_down.tab18 impl_down.bits18 (fun HT_ HW_ => ?_)
     generalize w6.drew = wd at Td Bd Rd1 Rd3 Fd hHeld ⊢
     refine pure_ (i := 0) (N := some 121) (v := ?_) (a' := ?_) #[true, false, false, false, false, false, false, false, false, false, false, false, false, false, false, false, false, false, false, false, false, false, false, false, false, false, false, false, false, false, false, false, false, false, false, false, false, false, false] rfl rfl (any_of HT_.out (by kernel_rfl)) (fun _ _ _ h => h) (Or.inl ⟨by rfl, ?_⟩) ?_ ?_
     rotate_left
     ·intro w'
      go_simp
      with_reducible rfl
     rotate_left
     ·simp only [Act.put, List.setIfInBounds_toArray, List.set_cons_zero, List.set_cons_succ, i64_w, i32_w]
      rfl
     refine pure_ (i := 1) (N := some 122) (v := ?_) (a' := ?_) #[true, true, false, false, false, false, false, false, false, false, false, false, false, false, false, false, false, false, false, false, false, false, false, false, false, false, false, false, false, false, false, false, false, false, false, false, false, false, false] rfl rfl (any_of HT_.out (by kernel_rfl)) (fun _ _ _ h => h) (Or.inl ⟨by rfl, ?_⟩) ?_ ?_
     rotate_left
     ·intro w'
      go_simp
      with_reducible rfl
     rotate_left
     ·simp only [Act.put, List.setIfInBounds_toArray, List.set_cons_zero, List.set_cons_succ, i64_w, i32_w]
      rfl
     refine pure_ (i := 2) (N := some 123) (v := ?_) (a' := ?_) #[true, true, true, false, false, false, false, false, false, false, false, false, false, false, false, false, false, false, false, false, false, false, false, false, false, false, false, false, false, false, false, false, false, false, false, false, false, false, false] rfl rfl (any_of HT_.out (by kernel_rfl)) (fun _ _ _ h => h) (Or.inl ⟨by rfl, ?_⟩) ?_ ?_
     rotate_left
     ·intro w'
      go_simp
      with_reducible rfl
     rotate_left
     ·simp only [Act.put, List.setIfInBounds_toArray, List.set_cons_zero, List.set_cons_succ, i64_w, i32_w]
      rfl
     refine pure_ (i := 3) (N := some 124) (v := ?_) (a' := ?_) #[true, true, true, true, false, false, false, false, false, false, false, false, false, false, false, false, false, false, false, false, false, false, false, false, false, false, false, false, false, false, false, false, false, false, false, false, false, false, false] rfl rfl (any_of HT_.out (by kernel_rfl)) (fun _ _ _ h => h) (Or.inl ⟨by rfl, ?_⟩) ?_ ?_
     rotate_left
     ·intro w'
      go_simp
      with_reducible rfl
     rotate_left
     ·simp only [Act.put, List.setIfInBounds_toArray, List.set_cons_zero, List.set_cons_succ, i64_w, i32_w]
      rfl
     refine take_ (i := 4) (N := some 125) (v := ?_) (a' := ?_) #[true, true, true, true, true, false, false, false, false, false, false, false, false, false, false, false, false, false, false, false, false, false, false, false, false, false, false, false, false, false, false, false, false, false, false, false, false, false, false] rfl rfl (take_ofW HT_.out HW_.out (by kernel_rfl)) (fun _ _ _ h => h) (Or.inl ⟨by rfl, ?_⟩) hHeld ?_ ?_
     rotate_left
     ·rintro w' ⟨s0, s1, s2, s3⟩
      go_simp
      with_reducible rfl
     rotate_left
     ·simp only [Act.put, List.setIfInBounds_toArray, List.set_cons_zero, List.set_cons_succ, i64_w, i32_w]
      rfl
     refine pure_ (i := 5) (N := some 126) (v := ?_) (a' := ?_) #[true, true, true, true, true, true, false, false, false, false, false, false, false, false, false, false, false, false, false, false, false, false, false, false, false, false, false, false, false, false, false, false, false, false, false, false, false, false, false] rfl rfl (any_of HT_.out (by kernel_rfl)) (fun _ _ _ h => h) (Or.inl ⟨by rfl, ?_⟩) ?_ ?_
     rotate_left
     ·intro w'
      go_simp
      with_reducible rfl
     rotate_left
     ·simp only [Act.put, List.setIfInBounds_toArray, List.set_cons_zero, List.set_cons_succ, i64_w, i32_w]
      rfl
     refine pure_ (i := 6) (N := some 127) (v := undef) (a' := ?_) #[true, true, true, true, true, true, true, false, false, false, false, false, false, false, false, false, false, false, false, false, false, false, false, false, false, false, false, false, false, false, false, false, false, false, false, false, false, false, false] rfl rfl (any_of HT_.out (by kernel_rfl)) (fun _ _ _ h => h) (Or.inr ⟨by rfl, rfl⟩) ?_ ?_
     rotate_left
     ·simp only [Act.put, List.setIfInBounds_toArray, List.set_cons_zero, List.set_cons_succ, i64_w, i32_w]
      rfl
     refine pure_ (i := 7) (N := some 128) (v := undef) (a' := ?_) #[true, true, true, true, true, true, true, true, false, false, false, false, false, false, false, false, false, false, false, false, false, false, false, false, false, false, false, false, false, false, false, false, false, false, false, false, false, false, false] rfl rfl (any_of HT_.out (by kernel_rfl)) (fun _ _ _ h => h) (Or.inr ⟨by rfl, rfl⟩) ?_ ?_
     rotate_left
     ·simp only [Act.put, List.setIfInBounds_toArray, List.set_cons_zero, List.set_cons_succ, i64_w, i32_w]
      rfl
     refine pure_ (i := 8) (N := some 129) (v := undef) (a' := ?_) #[true, true, true, true, true, true, true, true, true, false, false, false, false, false, false, false, false, false, false, false, false, false, false, false, false, false, false, false, false, false, false, false, false, false, false, false, false, false, false] rfl rfl (any_of HT_.out (by kernel_rfl)) (fun _ _ _ h => h) (Or.inr ⟨by rfl, rfl⟩) ?_ ?_
     rotate_left
     ·simp only [Act.put, List.setIfInBounds_toArray, List.set_cons_zero, List.set_cons_succ, i64_w, i32_w]
      rfl
     refine pure_ (i := 9) (N := some 130) (v := undef) (a' := ?_) #[true, true, true, true, true, true, true, true, true, true, false, false, false, false, false, false, false, false, false, false, false, false, false, false, false, false, false, false, false, false, false, false, false, false, false, false, false, false, false] rfl rfl (any_of HT_.out (by kernel_rfl)) (fun _ _ _ h => h) (Or.inr ⟨by rfl, rfl⟩) ?_ ?_
     rotate_left
     ·simp only [Act.put, List.setIfInBounds_toArray, List.set_cons_zero, List.set_cons_succ, i64_w, i32_w]
      rfl
     refine pure_ (i := 10) (N := some 131) (v := undef) (a' := ?_) #[true, true, true, true, true, true, true, true, true, true, true, false, false, false, false, false, false, false, false, false, false, false, false, false, false, false, false, false, false, false, false, false, false, false, false, false, false, false, false] rfl rfl (any_of HT_.out (by kernel_rfl)) (fun _ _ _ h => h) (Or.inr ⟨by rfl, rfl⟩) ?_ ?_
     rotate_left
     ·simp only [Act.put, List.setIfInBounds_toArray, List.set_cons_zero, List.set_cons_succ, i64_w, i32_w]
      rfl
     refine pure_ (i := 11) (N := some 132) (v := undef) (a' := ?_) #[true, true, true, true, true, true, true, true, true, true, true, true, false, false, false, false, false, false, false, false, false, false, false, false, false, false, false, false, false, false, false, false, false, false, false, false, false, false, false] rfl rfl (any_of HT_.out (by kernel_rfl)) (fun _ _ _ h => h) (Or.inr ⟨by rfl, rfl⟩) ?_ ?_
     rotate_left
     ·simp only [Act.put, List.setIfInBounds_toArray, List.set_cons_zero, List.set_cons_succ, i64_w, i32_w]
      rfl
     refine pure_ (i := 12) (N := some 133) (v := undef) (a' := ?_) #[true, true, true, true, true, true, true, true, true, true, true, true, true, false, false, false, false, false, false, false, false, false, false, false, false, false, false, false, false, false, false, false, false, false, false, false, false, false, false] rfl rfl (any_of HT_.out (by kernel_rfl)) (fun _ _ _ h => h) (Or.inr ⟨by rfl, rfl⟩) ?_ ?_
     rotate_left
     ·simp only [Act.put, List.setIfInBounds_toArray, List.set_cons_zero, List.set_cons_succ, i64_w, i32_w]
      rfl
     refine pure_ (i := 13) (N := some 134) (v := undef) (a' := ?_) #[true, true, true, true, true, true, true, true, true, true, true, true, true, true, false, false, false, false, false, false, false, false, false, false, false, false, false, false, false, false, false, false, false, false, false, false, false, false, false] rfl rfl (any_of HT_.out (by kernel_rfl)) (fun _ _ _ h => h) (Or.inr ⟨by rfl, rfl⟩) ?_ ?_
     rotate_left
     ·simp only [Act.put, List.setIfInBounds_toArray, List.set_cons_zero, List.set_cons_succ, i64_w, i32_w]
      rfl
     refine pure_ (i := 14) (N := some 135) (v := undef) (a' := ?_) #[true, true, true, true, true, true, true, true, true, true, true, true, true, true, true, false, false, false, false, false, false, false, false, false, false, false, false, false, false, false, false, false, false, false, false, false, false, false, false] rfl rfl (any_of HT_.out (by kernel_rfl)) (fun _ _ _ h => h) (Or.inr ⟨by rfl, rfl⟩) ?_ ?_
     rotate_left
     ·simp only [Act.put, List.setIfInBounds_toArray, List.set_cons_zero, List.set_cons_succ, i64_w, i32_w]
      rfl
     refine pure_ (i := 15) (N := some 136) (v := undef) (a' := ?_) #[true, true, true, true, true, true, true, true, true, true, true, true, true, true, true, true, false, false, false, false, false, false, false, false, false, false, false, false, false, false, false, false, false, false, false, false, false, false, false] rfl rfl (any_of HT_.out (by kernel_rfl)) (fun _ _ _ h => h) (Or.inr ⟨by rfl, rfl⟩) ?_ ?_
     rotate_left
     ·simp only [Act.put, List.setIfInBounds_toArray, List.set_cons_zero, List.set_cons_succ, i64_w, i32_w]
      rfl
     refine pure_ (i := 16) (N := some 137) (v := undef) (a' := ?_) #[true, true, true, true, true, true, true, true, true, true, true, true, true, true, true, true, true, false, false, false, false, false, false, false, false, false, false, false, false, false, false, false, false, false, false, false, false, false, false] rfl rfl (any_of HT_.out (by kernel_rfl)) (fun _ _ _ h => h) (Or.inr ⟨by rfl, rfl⟩) ?_ ?_
     rotate_left
     ·simp only [Act.put, List.setIfInBounds_toArray, List.set_cons_zero, List.set_cons_succ, i64_w, i32_w]
      rfl
     refine pure_ (i := 17) (N := some 138) (v := undef) (a' := ?_) #[true, true, true, true, true, true, true, true, true, true, true, true, true, true, true, true, true, true, false, false, false, false, false, false, false, false, false, false, false, false, false, false, false, false, false, false, false, false, false] rfl rfl (any_of HT_.out (by kernel_rfl)) (fun _ _ _ h => h) (Or.inr ⟨by rfl, rfl⟩) ?_ ?_
     rotate_left
     ·simp only [Act.put, List.setIfInBounds_toArray, List.set_cons_zero, List.set_cons_succ, i64_w, i32_w]
      rfl
     refine pure_ (i := 18) (N := some 139) (v := undef) (a' := ?_) #[true, true, true, true, true, true, true, true, true, true, true, true, true, true, true, true, true, true, true, false, false, false, false, false, false, false, false, false, false, false, false, false, false, false, false, false, false, false, false] rfl rfl (any_of HT_.out (by kernel_rfl)) (fun _ _ _ h => h) (Or.inr ⟨by rfl, rfl⟩) ?_ ?_
     rotate_left
     ·simp only [Act.put, List.setIfInBounds_toArray, List.set_cons_zero, List.set_cons_succ, i64_w, i32_w]
      rfl
     refine pure_ (i := 19) (N := some 140) (v := ?_) (a' := ?_) #[true, true, true, true, true, true, true, true, true, true, true, true, true, true, true, true, true, true, true, true, false, false, false, false, false, false, false, false, false, false, false, false, false, false, false, false, false, false, false] rfl rfl (any_of HT_.out (by kernel_rfl)) (fun _ _ _ h => h) (Or.inl ⟨by rfl, ?_⟩) ?_ ?_
     rotate_left
     ·intro w'
      go_simp
      with_reducible rfl
     rotate_left
     ·simp only [Act.put, List.setIfInBounds_toArray, List.set_cons_zero, List.set_cons_succ, i64_w, i32_w]
      rfl
     refine pure_ (i := 20) (N := some 141) (v := ?_) (a' := ?_) #[true, true, true, true, true, true, true, true, true, true, true, true, true, true, true, true, true, true, true, true, true, false, false, false, false, false, false, false, false, false, false, false, false, false, false, false, false, false, false] rfl rfl (any_of HT_.out (by kernel_rfl)) (fun _ _ _ h => h) (Or.inl ⟨by rfl, ?_⟩) ?_ ?_
     rotate_left
     ·intro w'
      go_simp
      with_reducible rfl
     rotate_left
     ·simp only [Act.put, List.setIfInBounds_toArray, List.set_cons_zero, List.set_cons_succ, i64_w, i32_w]
      rfl
     refine pure_ (i := 21) (N := some 142) (v := undef) (a' := ?_) #[true, true, true, true, true, true, true, true, true, true, true, true, true, true, true, true, true, true, true, true, true, true, false, false, false, false, false, false, false, false, false, false, false, false, false, false, false, false, false] rfl rfl (any_of HT_.out (by kernel_rfl)) (fun _ _ _ h => h) (Or.inr ⟨by rfl, rfl⟩) ?_ ?_
     rotate_left
     ·simp only [Act.put, List.setIfInBounds_toArray, List.set_cons_zero, List.set_cons_succ, i64_w, i32_w]
      rfl
     refine pure_ (i := 22) (N := some 143) (v := undef) (a' := ?_) #[true, true, true, true, true, true, true, true, true, true, true, true, true, true, true, true, true, true, true, true, true, true, true, false, false, false, false, false, false, false, false, false, false, false, false, false, false, false, false] rfl rfl (any_of HT_.out (by kernel_rfl)) (fun _ _ _ h => h) (Or.inr ⟨by rfl, rfl⟩) ?_ ?_
     rotate_left
     ·simp only [Act.put, List.setIfInBounds_toArray, List.set_cons_zero, List.set_cons_succ, i64_w, i32_w]
      rfl
     refine pure_ (i := 23) (N := some 144) (v := undef) (a' := ?_) #[true, true, true, true, true, true, true, true, true, true, true, true, true, true, true, true, true, true, true, true, true, true, true, true, false, false, false, false, false, false, false, false, false, false, false, false, false, false, false] rfl rfl (any_of HT_.out (by kernel_rfl)) (fun _ _ _ h => h) (Or.inr ⟨by rfl, rfl⟩) ?_ ?_
     rotate_left
     ·simp only [Act.put, List.setIfInBounds_toArray, List.set_cons_zero, List.set_cons_succ, i64_w, i32_w]
      rfl
     refine pure_ (i := 24) (N := some 145) (v := undef) (a' := ?_) #[true, true, true, true, true, true, true, true, true, true, true, true, true, true, true, true, true, true, true, true, true, true, true, true, true, false, false, false, false, false, false, false, false, false, false, false, false, false, false] rfl rfl (any_of HT_.out (by kernel_rfl)) (fun _ _ _ h => h) (Or.inr ⟨by rfl, rfl⟩) ?_ ?_
     rotate_left
     ·simp only [Act.put, List.setIfInBounds_toArray, List.set_cons_zero, List.set_cons_succ, i64_w, i32_w]
      rfl
     refine pure_ (i := 25) (N := some 146) (v := undef) (a' := ?_) #[true, true, true, true, true, true, true, true, true, true, true, true, true, true, true, true, true, true, true, true, true, true, true, true, true, true, false, false, false, false, false, false, false, false, false, false, false, false, false] rfl rfl (any_of HT_.out (by kernel_rfl)) (fun _ _ _ h => h) (Or.inr ⟨by rfl, rfl⟩) ?_ ?_
     rotate_left
     ·simp only [Act.put, List.setIfInBounds_toArray, List.set_cons_zero, List.set_cons_succ, i64_w, i32_w]
      rfl
     refine pure_ (i := 26) (N := some 147) (v := undef) (a' := ?_) #[true, true, true, true, true, true, true, true, true, true, true, true, true, true, true, true, true, true, true, true, true, true, true, true, true, true, true, false, false, false, false, false, false, false, false, false, false, false, false] rfl rfl (any_of HT_.out (by kernel_rfl)) (fun _ _ _ h => h) (Or.inr ⟨by rfl, rfl⟩) ?_ ?_
     rotate_left
     ·simp only [Act.put, List.setIfInBounds_toArray, List.set_cons_zero, List.set_cons_succ, i64_w, i32_w]
      rfl
     refine pure_ (i := 27) (N := some 148) (v := undef) (a' := ?_) #[true, true, true, true, true, true, true, true, true, true, true, true, true, true, true, true, true, true, true, true, true, true, true, true, true, true, true, true, false, false, false, false, false, false, false, false, false, false, false] rfl rfl (any_of HT_.out (by kernel_rfl)) (fun _ _ _ h => h) (Or.inr ⟨by rfl, rfl⟩) ?_ ?_
     rotate_left
     ·simp only [Act.put, List.setIfInBounds_toArray, List.set_cons_zero, List.set_cons_succ, i64_w, i32_w]
      rfl
     refine pure_ (i := 28) (N := some 149) (v := undef) (a' := ?_) #[true, true, true, true, true, true, true, true, true, true, true, true, true, true, true, true, true, true, true, true, true, true, true, true, true, true, true, true, true, false, false, false, false, false, false, false, false, false, false] rfl rfl (any_of HT_.out (by kernel_rfl)) (fun _ _ _ h => h) (Or.inr ⟨by rfl, rfl⟩) ?_ ?_
     rotate_left
     ·simp only [Act.put, List.setIfInBounds_toArray, List.set_cons_zero, List.set_cons_succ, i64_w, i32_w]
      rfl
     refine pure_ (i := 29) (N := some 150) (v := undef) (a' := ?_) #[true, true, true, true, true, true, true, true, true, true, true, true, true, true, true, true, true, true, true, true, true, true, true, true, true, true, true, true, true, true, false, false, false, false, false, false, false, false, false] rfl rfl (any_of HT_.out (by kernel_rfl)) (fun _ _ _ h => h) (Or.inr ⟨by rfl, rfl⟩) ?_ ?_
     rotate_left
     ·simp only [Act.put, List.setIfInBounds_toArray, List.set_cons_zero, List.set_cons_succ, i64_w, i32_w]
      rfl
     refine pure_ (i := 30) (N := some 151) (v := undef) (a' := ?_) #[true, true, true, true, true, true, true, true, true, true, true, true, true, true, true, true, true, true, true, true, true, true, true, true, true, true, true, true, true, true, true, false, false, false, false, false, false, false, false] rfl rfl (any_of HT_.out (by kernel_rfl)) (fun _ _ _ h => h) (Or.inr ⟨by rfl, rfl⟩) ?_ ?_
     rotate_left
     ·simp only [Act.put, List.setIfInBounds_toArray, List.set_cons_zero, List.set_cons_succ, i64_w, i32_w]
      rfl
     refine pure_ (i := 31) (N := some 152) (v := undef) (a' := ?_) #[true, true, true, true, true, true, true, true, true, true, true, true, true, true, true, true, true, true, true, true, true, true, true, true, true, true, true, true, true, true, true, true, false, false, false, false, false, false, false] rfl rfl (any_of HT_.out (by kernel_rfl)) (fun _ _ _ h => h) (Or.inr ⟨by rfl, rfl⟩) ?_ ?_
     rotate_left
     ·simp only [Act.put, List.setIfInBounds_toArray, List.set_cons_zero, List.set_cons_succ, i64_w, i32_w]
      rfl
     refine pure_ (i := 32) (N := some 153) (v := undef) (a' := ?_) #[true, true, true, true, true, true, true, true, true, true, true, true, true, true, true, true, true, true, true, true, true, true, true, true, true, true, true, true, true, true, true, true, true, false, false, false, false, false, false] rfl rfl (any_of HT_.out (by kernel_rfl)) (fun _ _ _ h => h) (Or.inr ⟨by rfl, rfl⟩) ?_ ?_
     rotate_left
     ·simp only [Act.put, List.setIfInBounds_toArray, List.set_cons_zero, List.set_cons_succ, i64_w, i32_w]
      rfl
     refine pure_ (i := 33) (N := some 154) (v := undef) (a' := ?_) #[true, true, true, true, true, true, true, true, true, true, true, true, true, true, true, true, true, true, true, true, true, true, true, true, true, true, true, true, true, true, true, true, true, true, false, false, false, false, false] rfl rfl (any_of HT_.out (by kernel_rfl)) (fun _ _ _ h => h) (Or.inr ⟨by rfl, rfl⟩) ?_ ?_
     rotate_left
     ·simp only [Act.put, List.setIfInBounds_toArray, List.set_cons_zero, List.set_cons_succ, i64_w, i32_w]
      rfl
     refine pure_ (i := 34) (N := some 155) (v := undef) (a' := ?_) #[true, true, true, true, true, true, true, true, true, true, true, true, true, true, true, true, true, true, true, true, true, true, true, true, true, true, true, true, true, true, true, true, true, true, true, false, false, false, false] rfl rfl (any_of HT_.out (by kernel_rfl)) (fun _ _ _ h => h) (Or.inr ⟨by rfl, rfl⟩) ?_ ?_
     rotate_left
     ·simp only [Act.put, List.setIfInBounds_toArray, List.set_cons_zero, List.set_cons_succ, i64_w, i32_w]
      rfl
     refine pure_ (i := 35) (N := some 156) (v := ?_) (a' := ?_) #[true, true, true, true, true, true, true, true, true, true, true, true, true, true, true, true, true, true, true, true, true, true, true, true, true, true, true, true, true, true, true, true, true, true, true, true, false, false, false] rfl rfl (any_of HT_.out (by kernel_rfl)) (fun _ _ _ h => h) (Or.inl ⟨by rfl, ?_⟩) ?_ ?_
     rotate_left
     ·intro w'
      go_simp
      with_reducible rfl
     rotate_left
     ·simp only [Act.put, List.setIfInBounds_toArray, List.set_cons_zero, List.set_cons_succ, i64_w, i32_w]
      rfl
     refine pure_ (i := 36) (N := some 157) (v := ?_) (a' := ?_) #[true, true, true, true, true, true, true, true, true, true, true, true, true, true, true, true, true, true, true, true, true, true, true, true, true, true, true, true, true, true, true, true, true, true, true, true, true, false, false] rfl rfl (any_of HT_.out (by kernel_rfl)) (fun _ _ _ h => h) (Or.inl ⟨by rfl, ?_⟩) ?_ ?_
     rotate_left
     ·intro w'
      go_simp
      with_reducible rfl
     rotate_left
     ·simp only [Act.put, List.setIfInBounds_toArray, List.set_cons_zero, List.set_cons_succ, i64_w, i32_w]
      rfl
     refine pure_ (i := 37) (N := some 158) (v := ?_) (a' := ?_) #[true, true, true, true, true, true, true, true, true, true, true, true, true, true, true, true, true, true, true, true, true, true, true, true, true, true, true, true, true, true, true, true, true, true, true, true, true, true, false] rfl rfl (any_of HT_.out (by kernel_rfl)) (fun _ _ _ h => h) (Or.inl ⟨by rfl, ?_⟩) ?_ ?_
     rotate_left
     ·intro w'
      go_simp
      with_reducible rfl
     rotate_left
     ·simp only [Act.put, List.setIfInBounds_toArray, List.set_cons_zero, List.set_cons_succ, i64_w, i32_w]
      rfl
     refine last_ (i := 38) (N := none) #[true, true, true, true, true, true, true, true, true, true, true, true, true, true, true, true, true, true, true, true, true, true, true, true, true, true, true, true, true, true, true, true, true, true, true, true, true, true, true] rfl rfl (one_of HT_.out (by kernel_rfl)) (by decide) (fun K hK => ?_)
     have hs1 : wd.cell? ⟨g, 5, none⟩ = some (.bool false) := (blk_cell Td.out.bT 5).trans rfl
     have hf1 := blk_frozen Td.out.bT 5
     refine skip_ (w1 := ?_) (by rfl) rfl ?_ ?_
     rotate_left
     ·go_simp
      rfl
     refine hK.out _ _ ?_
     clear hK K
     refine done_ (done_of HT_.out (by kernel_rfl)) ?_
     clear hs1 hf1 hHeld
     have T7 := Aside0.mk (set1 (x := false) (layI _ _) (by decide) Td.out)
     have F7 := Aside0.mk (Fd.out.set 5 (.bool (false)))
     have B7 := Aside0.mk (blk_far (p := ⟨g, 5, none⟩) Bd.out (blk_ne Bd.out Td.out.bT (by decide)) (.bool (false)))
     have R17 := Aside0.mk (Kd.R_set Rd1.out Td.out.bT (by decide) 5 (.bool (false)))
     have R37 := Aside0.mk (And.intro (Kd.R_set Rd3.out.1 Td.out.bT (by decide) 5 (.bool (false))) Rd3.out.2)
     clear Td Bd Rd1 Rd3 Fd hcut1 hcut2 HC1 HC2
     generalize hwx : wd.setCell ⟨g, 5, none⟩ _ = w7 at T7 F7 B7 R17 R37 ⊢
     clear hwx
     go_wp2
     have hw : wrap64 ((kk : Int) + 1) = ((kk + 1 : Nat) : Int) := by unfold wrap64; omega
     have HW := Aside0.mk hw
     clear hw
     go_roundg (kids.length - (kk + 1))
     case measure => omega
     case rel =>
      have hml := HLK.out.2
      have hln := HLN.out
      have e1 : (kk + 1) * N = kk * N + N := Nat.succ_mul _ _
      have e2 : (kk + 1) * (4 * N) = kk * (4 * N) + 4 * N := Nat.succ_mul _ _
      exact ⟨kk + 1, ⟨pgn, prn, dpn, false, false⟩, Agn, cgn, Apn, cpn, Adn, cdn, by omega, by omega, by first | rfl | exact congrArg (Value.int .i64) HW.out, T7, B7, R17, R37, F7, ⟨by have := HE.out; simpa using this⟩, ⟨rfl, by show pr.length ≤ prn.length; omega, by show pgn.length ≤ _; rw [e1]; omega, by show prn.length ≤ _; rw [e2]; omega, by show dpn.length ≤ _; rw [e1]; omega⟩⟩
    | true =>
     subst hor
     cases hbb : bl with
     | true =>
      subst hbb
      have Td := Aside0.mk TN'.out.drew
      have Bd := Aside0.mk (blk_below BN6.out (Below.refl _ _).drew)
      have Rd1 := Aside0.mk (Kd.R_below R16.out (Below.refl _ _).drew)
      have Rd3 := Aside0.mk (And.intro (Kd.R_below R36.out.1 (Below.refl _ _).drew) R36.out.2)
      have Fd := Aside0.mk (HF6.out.below (Below.refl _ _).drew)
      clear TN' BN6 R16 R36 HF6 hd66 hg6
      refine start_ (n := 39) (S := fun w' => w'.cell? ⟨g, 5, none⟩ = some (.bool true) ∧ w'.cell? ⟨g, 3, none⟩ = some (.slice Apn prn.length cpn) ∧ w'.cell? ⟨gN, 1, none⟩ = some (.slice (some ad1) keys.length c1) ∧ w'.cell? (ad1.add kk) = some (.string key)) (ds := [38]) #[false, false, false, false, false, false, false, false, false, false, false, false, false, false, false, false, false, false, false, false, false, false, false, false, false, false, false, false, false, false, false, false, false, false, false, false, false, false, false] (by kernel_rfl) rfl rfl ⟨(blk_cell Td.out.bT 5).trans rfl, (blk_cell Td.out.bT 3).trans rfl, (blk_cell Bd.out 1).trans rfl, (seen_str Rd1.out hlk).trans (by rw [HKEY2.out])⟩ (fun hHeld => ?_); refine with_tabW impl_down.tab18 impl_down.bits18 (fun HT_ HW_ => ?_)
      generalize w6.drew = wd at Td Bd Rd1 Rd3 Fd hHeld ⊢
      refine pure_ (i := 0) (N := some 121) (v := ?_) (a' := ?_) #[true, false, false, false, false, false, false, false, false, false, false, false, false, false, false, false, false, false, false, false, false, false, false, false, false, false, false, false, false, false, false, false, false, false, false, false, false, false, false] rfl rfl (any_of HT_.out (by kernel_rfl)) (fun _ _ _ h => h) (Or.inl ⟨by rfl, ?_⟩) ?_ ?_
      rotate_left
      ·intro w'
       go_simp
       with_reducible rfl
      rotate_left
      ·simp only [Act.put, List.setIfInBounds_toArray, List.set_cons_zero, List.set_cons_succ, i64_w, i32_w]
       rfl
      refine pure_ (i := 1) (N := some 122) (v := ?_) (a' := ?_) #[true, true, false, false, false, false, false, false, false, false, false, false, false, false, false, false, false, false, false, false, false, false, false, false, false, false, false, false, false, false, false, false, false, false, false, false, false, false, false] rfl rfl (any_of HT_.out (by kernel_rfl)) (fun _ _ _ h => h) (Or.inl ⟨by rfl, ?_⟩) ?_ ?_
      rotate_left
      ·intro w'
       go_simp
       with_reducible rfl
      rotate_left
      ·simp only [Act.put, List.setIfInBounds_toArray, List.set_cons_zero, List.set_cons_succ, i64_w, i32_w]
       rfl
      refine pure_ (i := 2) (N := some 123) (v := ?_) (a' := ?_) #[true, true, true, false, false, false, false, false, false, false, false, false, false, false, false, false, false, false, false, false, false, false, false, false, false, false, false, false, false, false, false, false, false, false, false, false, false, false, false] rfl rfl (any_of HT_.out (by kernel_rfl)) (fun _ _ _ h => h) (Or.inl ⟨by rfl, ?_⟩) ?_ ?_
      rotate_left
      ·intro w'
       go_simp
       with_reducible rfl
      rotate_left
      ·simp only [Act.put, List.setIfInBounds_toArray, List.set_cons_zero, List.set_cons_succ, i64_w, i32_w]
       rfl
      refine pure_ (i := 3) (N := some 124) (v := ?_) (a' := ?_) #[true, true, true, true, false, false, false, false, false, false, false, false, false, false, false, false, false, false, false, false, false, false, false, false, false, false, false, false, false, false, false, false, false, false, false, false, false, false, false] rfl rfl (any_of HT_.out (by kernel_rfl)) (fun _ _ _ h => h) (Or.inl ⟨by rfl, ?_⟩) ?_ ?_
      rotate_left
      ·intro w'
       go_simp
       with_reducible rfl
      rotate_left
      ·simp only [Act.put, List.setIfInBounds_toArray, List.set_cons_zero, List.set_cons_succ, i64_w, i32_w]
       rfl
      refine take_ (i := 4) (N := some 125) (v := ?_) (a' := ?_) #[true, true, true, true, true, false, false, false, false, false, false, false, false, false, false, false, false, false, false, false, false, false, false, false, false, false, false, false, false, false, false, false, false, false, false, false, false, false, false] rfl rfl (take_ofW HT_.out HW_.out (by kernel_rfl)) (fun _ _ _ h => h) (Or.inl ⟨by rfl, ?_⟩) hHeld ?_ ?_
      rotate_left
      ·rintro w' ⟨s0, s1, s2, s3⟩
       go_simp
       with_reducible rfl
      rotate_left
      ·simp only [Act.put, List.setIfInBounds_toArray, List.set_cons_zero, List.set_cons_succ, i64_w, i32_w]
       rfl
      refine pure_ (i := 5) (N := some 126) (v := ?_) (a' := ?_) #[true, true, true, true, true, true, false, false, false, false, false, false, false, false, false, false, false, false, false, false, false, false, false, false, false, false, false, false, false, false, false, false, false, false, false, false, false, false, false] rfl rfl (any_of HT_.out (by kernel_rfl)) (fun _ _ _ h => h) (Or.inl ⟨by rfl, ?_⟩) ?_ ?_
      rotate_left
      ·intro w'
       go_simp
       with_reducible rfl
      rotate_left
      ·simp only [Act.put, List.setIfInBounds_toArray, List.set_cons_zero, List.set_cons_succ, i64_w, i32_w]
       rfl
      refine pure_ (i := 6) (N := some 127) (v := ?_) (a' := ?_) #[true, true, true, true, true, true, true, false, false, false, false, false, false, false, false, false, false, false, false, false, false, false, false, false, false, false, false, false, false, false, false, false, false, false, false, false, false, false, false] rfl rfl (any_of HT_.out (by kernel_rfl)) (fun _ _ _ h => h) (Or.inl ⟨by rfl, ?_⟩) ?_ ?_
      rotate_left
      ·intro w'
       go_simp
       with_reducible rfl
      rotate_left
      ·simp only [Act.put, List.setIfInBounds_toArray, List.set_cons_zero, List.set_cons_succ, i64_w, i32_w]
       rfl
      refine pure_ (i := 7) (N := some 128) (v := ?_) (a' := ?_) #[true, true, true, true, true, true, true, true, false, false, false, false, false, false, false, false, false, false, false, false, false, false, false, false, false, false, false, false, false, false, false, false, false, false, false, false, false, false, false] rfl rfl (any_of HT_.out (by kernel_rfl)) (fun _ _ _ h => h) (Or.inl ⟨by rfl, ?_⟩) ?_ ?_
      rotate_left
      ·intro w'
       go_simp
       with_reducible rfl
      rotate_left
      ·simp only [Act.put, List.setIfInBounds_toArray, List.set_cons_zero, List.set_cons_succ, i64_w, i32_w]
       rfl
      refine pure_ (i := 8) (N := some 129) (v := ?_) (a' := ?_) #[true, true, true, true, true, true, true, true, true, false, false, false, false, false, false, false, false, false, false, false, false, false, false, false, false, false, false, false, false, false, false, false, false, false, false, false, false, false, false] rfl rfl (any_of HT_.out (by kernel_rfl)) (fun _ _ _ h => h) (Or.inl ⟨by rfl, ?_⟩) ?_ ?_
      rotate_left
      ·intro w'
       go_simp
       with_reducible rfl
      rotate_left
      ·simp only [Act.put, List.setIfInBounds_toArray, List.set_cons_zero, List.set_cons_succ, i64_w, i32_w]
       rfl
      refine take_ (i := 9) (N := some 130) (v := ?_) (a' := ?_) #[true, true, true, true, true, true, true, true, true, true, false, false, false, false, false, false, false, false, false, false, false, false, false, false, false, false, false, false, false, false, false, false, false, false, false, false, false, false, false] rfl rfl (take_ofW HT_.out HW_.out (by kernel_rfl)) (fun _ _ _ h => h) (Or.inl ⟨by rfl, ?_⟩) hHeld ?_ ?_
      rotate_left
      ·rintro w' ⟨s0, s1, s2, s3⟩
       go_simp
       with_reducible rfl
      rotate_left
      ·simp only [Act.put, List.setIfInBounds_toArray, List.set_cons_zero, List.set_cons_succ, i64_w, i32_w]
       rfl
      refine pure_ (i := 10) (N := some 131) (v := ?_) (a' := ?_) #[true, true, true, true, true, true, true, true, true, true, true, false, false, false, false, false, false, false, false, false, false, false, false, false, false, false, false, false, false, false, false, false, false, false, false, false, false, false, false] rfl rfl (any_of HT_.out (by kernel_rfl)) (fun _ _ _ h => h) (Or.inl ⟨by rfl, ?_⟩) ?_ ?_
      rotate_left
      ·intro w'
       go_simp
       with_reducible rfl
      rotate_left
      ·simp only [Act.put, List.setIfInBounds_toArray, List.set_cons_zero, List.set_cons_succ, i64_w, i32_w]
       rfl
      refine pure_ (i := 11) (N := some 132) (v := ?_) (a' := ?_) #[true, true, true, true, true, true, true, true, true, true, true, true, false, false, false, false, false, false, false, false, false, false, false, false, false, false, false, false, false, false, false, false, false, false, false, false, false, false, false] rfl rfl (any_of HT_.out (by kernel_rfl)) (fun _ _ _ h => h) (Or.inl ⟨by rfl, ?_⟩) ?_ ?_
      rotate_left
      ·intro w'
       go_simp
       with_reducible rfl
      rotate_left
      ·simp only [Act.put, List.setIfInBounds_toArray, List.set_cons_zero, List.set_cons_succ, i64_w, i32_w]
       rfl
      refine pure_ (i := 12) (N := some 133) (v := ?_) (a' := ?_) #[true, true, true, true, true, true, true, true, true, true, true, true, true, false, false, false, false, false, false, false, false, false, false, false, false, false, false, false, false, false, false, false, false, false, false, false, false, false, false] rfl rfl (any_of HT_.out (by kernel_rfl)) (fun _ _ _ h => h) (Or.inl ⟨by rfl, ?_⟩) ?_ ?_
      rotate_left
      ·intro w'
       go_simp
       with_reducible rfl
      rotate_left
      ·simp only [Act.put, List.setIfInBounds_toArray, List.set_cons_zero, List.set_cons_succ, i64_w, i32_w]
       rfl
      refine take_ (i := 13) (N := some 134) (v := ?_) (a' := ?_) #[true, true, true, true, true, true, true, true, true, true, true, true, true, true, false, false, false, false, false, false, false, false, false, false, false, false, false, false, false, false, false, false, false, false, false, false, false, false, false] rfl rfl (take_ofW HT_.out HW_.out (by kernel_rfl)) (fun _ _ _ h => h) (Or.inl ⟨by rfl, ?_⟩) hHeld ?_ ?_
      rotate_left
      ·rintro w' ⟨s0, s1, s2, s3⟩
       go_simp
       with_reducible rfl
      rotate_left
      ·simp only [Act.put, List.setIfInBounds_toArray, List.set_cons_zero, List.set_cons_succ, i64_w, i32_w]
       rfl
      refine pure_ (i := 14) (N := some 135) (v := ?_) (a' := ?_) #[true, true, true, true, true, true, true, true, true, true, true, true, true, true, true, false, false, false, false, false, false, false, false, false, false, false, false, false, false, false, false, false, false, false, false, false, false, false, false] rfl rfl (any_of HT_.out (by kernel_rfl)) (fun _ _ _ h => h) (Or.inl ⟨by rfl, ?_⟩) ?_ ?_
      rotate_left
      ·intro w'
       go_simp
       with_reducible rfl
      rotate_left
      ·simp only [Act.put, List.setIfInBounds_toArray, List.set_cons_zero, List.set_cons_succ, i64_w, i32_w]
       rfl
      refine pure_ (i := 15) (N := some 136) (v := ?_) (a' := ?_) #[true, true, true, true, true, true, true, true, true, true, true, true, true, true, true, true, false, false, false, false, false, false, false, false, false, false, false, false, false, false, false, false, false, false, false, false, false, false, false] rfl rfl (any_of HT_.out (by kernel_rfl)) (fun _ _ _ h => h) (Or.inl ⟨by rfl, ?_⟩) ?_ ?_
      rotate_left
      ·intro w'
       go_simp
       with_reducible rfl
      rotate_left
      ·simp only [Act.put, List.setIfInBounds_toArray, List.set_cons_zero, List.set_cons_succ, i64_w, i32_w]
       rfl
      refine take_ (i := 16) (N := some 137) (v := ?_) (a' := ?_) #[true, true, true, true, true, true, true, true, true, true, true, true, true, true, true, true, true, false, false, false, false, false, false, false, false, false, false, false, false, false, false, false, false, false, false, false, false, false, false] rfl rfl (take_ofW HT_.out HW_.out (by kernel_rfl)) (fun _ _ _ h => h) (Or.inl ⟨by rfl, ?_⟩) hHeld ?_ ?_
      rotate_left
      ·rintro w' ⟨s0, s1, s2, s3⟩
       go_simp
       with_reducible rfl
      rotate_left
      ·simp only [Act.put, List.setIfInBounds_toArray, List.set_cons_zero, List.set_cons_succ, i64_w, i32_w]
       rfl
      refine one_ (i := 17) (N := some 138) #[true, true, true, true, true, true, true, true, true, true, true, true, true, true, true, true, true, true, false, false, false, false, false, false, false, false, false, false, false, false, false, false, false, false, false, false, false, false, false] rfl rfl (one_of HT_.out (by kernel_rfl)) (by decide) (fun K hK => ?_)
      refine goes_ Try.func161 (by kernel_rfl) rfl #[.slice Ac1 (prn.length - pri.length) (cpn - pri.length), .string key] (by rfl) rfl rfl (by (try simp only [List.map_toArray, List.map_cons, List.map_nil]); first | done | rfl) ?_
      with_reducible refine (HC1.out _ key true (R_seen Td.out.rp).2 HBL.out).mono ?_
      rintro e wn ⟨rfl, hbn⟩
      refine ⟨_, rfl, ?_⟩
      have Td_ := Aside0.mk (Td.out.below hbn)
      have Bd_ := Aside0.mk (blk_below Bd.out hbn)
      have Rd1_ := Aside0.mk (Kd.R_below Rd1.out hbn)
      have Rd3_ := Aside0.mk (And.intro (Kd.R_below Rd3.out.1 hbn) Rd3.out.2)
      have Fd_ := Aside0.mk (Fd.out.below hbn)
      clear Td Bd Rd1 Rd3 Fd hbn
      have Td := Td_
      have Bd := Bd_
      have Rd1 := Rd1_
      have Rd3 := Rd3_
      have Fd := Fd_
      clear Td_ Bd_ Rd1_ Rd3_ Fd_
      refine hK.out _ _ ⟨(blk_cell Td.out.bT 5).trans rfl, (blk_cell Td.out.bT 3).trans rfl, (blk_cell Bd.out 1).trans rfl, (seen_str Rd1.out hlk).trans (by rw [HKEY2.out])⟩ (fun hHeld => ?_)
      clear hK K
      refine norm_ (a' := ?_) ?_ ?_
      rotate_left
      ·show Act.put _ (some 138) _ = _
       simp only [Act.put, List.setIfInBounds_toArray, List.set_cons_zero, List.set_cons_succ, i64_w, i32_w]
       rfl
      refine pure_ (i := 18) (N := some 139) (v := ?_) (a' := ?_) #[true, true, true, true, true, true, true, true, true, true, true, true, true, true, true, true, true, true, true, false, false, false, false, false, false, false, false, false, false, false, false, false, false, false, false, false, false, false, false] rfl rfl (any_of HT_.out (by kernel_rfl)) (fun _ _ _ h => h) (Or.inl ⟨by rfl, ?_⟩) ?_ ?_
      rotate_left
      ·intro w'
       go_simp
       with_reducible rfl
      rotate_left
      ·simp only [Act.put, List.setIfInBounds_toArray, List.set_cons_zero, List.set_cons_succ, i64_w, i32_w]
       rfl
      refine pure_ (i := 19) (N := some 140) (v := ?_) (a' := ?_) #[true, true, true, true, true, true, true, true, true, true, true, true, true, true, true, true, true, true, true, true, false, false, false, false, false, false, false, false, false, false, false, false, false, false, false, false, false, false, false] rfl rfl (any_of HT_.out (by kernel_rfl)) (fun _ _ _ h => h) (Or.inl ⟨by rfl, ?_⟩) ?_ ?_
      rotate_left
      ·intro w'
       go_simp
       with_reducible rfl
      rotate_left
      ·simp only [Act.put, List.setIfInBounds_toArray, List.set_cons_zero, List.set_cons_succ, i64_w, i32_w]
       rfl
      refine pure_ (i := 20) (N := some 141) (v := ?_) (a' := ?_) #[true, true, true, true, true, true, true, true, true, true, true, true, true, true, true, true, true, true, true, true, true, false, false, false, false, false, false, false, false, false, false, false, false, false, false, false, false, false, false] rfl rfl (any_of HT_.out (by kernel_rfl)) (fun _ _ _ h => h) (Or.inl ⟨by rfl, ?_⟩) ?_ ?_
      rotate_left
      ·intro w'
       go_simp
       with_reducible rfl
      rotate_left
      ·simp only [Act.put, List.setIfInBounds_toArray, List.set_cons_zero, List.set_cons_succ, i64_w, i32_w]
       rfl
      refine pure_ (i := 21) (N := some 142) (v := undef) (a' := ?_) #[true, true, true, true, true, true, true, true, true, true, true, true, true, true, true, true, true, true, true, true, true, true, false, false, false, false, false, false, false, false, false, false, false, false, false, false, false, false, false] rfl rfl (any_of HT_.out (by kernel_rfl)) (fun _ _ _ h => h) (Or.inr ⟨by rfl, rfl⟩) ?_ ?_
      rotate_left
      ·simp only [Act.put, List.setIfInBounds_toArray, List.set_cons_zero, List.set_cons_succ, i64_w, i32_w]
       rfl
      refine pure_ (i := 22) (N := some 143) (v := undef) (a' := ?_) #[true, true, true, true, true, true, true, true, true, true, true, true, true, true, true, true, true, true, true, true, true, true, true, false, false, false, false, false, false, false, false, false, false, false, false, false, false, false, false] rfl rfl (any_of HT_.out (by kernel_rfl)) (fun _ _ _ h => h) (Or.inr ⟨by rfl, rfl⟩) ?_ ?_
      rotate_left
      ·simp only [Act.put, List.setIfInBounds_toArray, List.set_cons_zero, List.set_cons_succ, i64_w, i32_w]
       rfl
      refine pure_ (i := 23) (N := some 144) (v := undef) (a' := ?_) #[true, true, true, true, true, true, true, true, true, true, true, true, true, true, true, true, true, true, true, true, true, true, true, true, false, false, false, false, false, false, false, false, false, false, false, false, false, false, false] rfl rfl (any_of HT_.out (by kernel_rfl)) (fun _ _ _ h => h) (Or.inr ⟨by rfl, rfl⟩) ?_ ?_
      rotate_left
      ·simp only [Act.put, List.setIfInBounds_toArray, List.set_cons_zero, List.set_cons_succ, i64_w, i32_w]
       rfl
      refine pure_ (i := 24) (N := some 145) (v := undef) (a' := ?_) #[true, true, true, true, true, true, true, true, true, true, true, true, true, true, true, true, true, true, true, true, true, true, true, true, true, false, false, false, false, false, false, false, false, false, false, false, false, false, false] rfl rfl (any_of HT_.out (by kernel_rfl)) (fun _ _ _ h => h) (Or.inr ⟨by rfl, rfl⟩) ?_ ?_
      rotate_left
      ·simp only [Act.put, List.setIfInBounds_toArray, List.set_cons_zero, List.set_cons_succ, i64_w, i32_w]
       rfl
      refine pure_ (i := 25) (N := some 146) (v := undef) (a' := ?_) #[true, true, true, true, true, true, true, true, true, true, true, true, true, true, true, true, true, true, true, true, true, true, true, true, true, true, false, false, false, false, false, false, false, false, false, false, false, false, false] rfl rfl (any_of HT_.out (by kernel_rfl)) (fun _ _ _ h => h) (Or.inr ⟨by rfl, rfl⟩) ?_ ?_
      rotate_left
      ·simp only [Act.put, List.setIfInBounds_toArray, List.set_cons_zero, List.set_cons_succ, i64_w, i32_w]
       rfl
      refine pure_ (i := 26) (N := some 147) (v := undef) (a' := ?_) #[true, true, true, true, true, true, true, true, true, true, true, true, true, true, true, true, true, true, true, true, true, true, true, true, true, true, true, false, false, false, false, false, false, false, false, false, false, false, false] rfl rfl (any_of HT_.out (by kernel_rfl)) (fun _ _ _ h => h) (Or.inr ⟨by rfl, rfl⟩) ?_ ?_
      rotate_left
      ·simp only [Act.put, List.setIfInBounds_toArray, List.set_cons_zero, List.set_cons_succ, i64_w, i32_w]
       rfl
      refine pure_ (i := 27) (N := some 148) (v := undef) (a' := ?_) #[true, true, true, true, true, true, true, true, true, true, true, true, true, true, true, true, true, true, true, true, true, true, true, true, true, true, true, true, false, false, false, false, false, false, false, false, false, false, false] rfl rfl (any_of HT_.out (by kernel_rfl)) (fun _ _ _ h => h) (Or.inr ⟨by rfl, rfl⟩) ?_ ?_
      rotate_left
      ·simp only [Act.put, List.setIfInBounds_toArray, List.set_cons_zero, List.set_cons_succ, i64_w, i32_w]
       rfl
      refine pure_ (i := 28) (N := some 149) (v := undef) (a' := ?_) #[true, true, true, true, true, true, true, true, true, true, true, true, true, true, true, true, true, true, true, true, true, true, true, true, true, true, true, true, true, false, false, false, false, false, false, false, false, false, false] rfl rfl (any_of HT_.out (by kernel_rfl)) (fun _ _ _ h => h) (Or.inr ⟨by rfl, rfl⟩) ?_ ?_
      rotate_left
      ·simp only [Act.put, List.setIfInBounds_toArray, List.set_cons_zero, List.set_cons_succ, i64_w, i32_w]
       rfl
      refine pure_ (i := 29) (N := some 150) (v := undef) (a' := ?_) #[true, true, true, true, true, true, true, true, true, true, true, true, true, true, true, true, true, true, true, true, true, true, true, true, true, true, true, true, true, true, false, false, false, false, false, false, false, false, false] rfl rfl (any_of HT_.out (by kernel_rfl)) (fun _ _ _ h => h) (Or.inr ⟨by rfl, rfl⟩) ?_ ?_
      rotate_left
      ·simp only [Act.put, List.setIfInBounds_toArray, List.set_cons_zero, List.set_cons_succ, i64_w, i32_w]
       rfl
      refine pure_ (i := 30) (N := some 151) (v := undef) (a' := ?_) #[true, true, true, true, true, true, true, true, true, true, true, true, true, true, true, true, true, true, true, true, true, true, true, true, true, true, true, true, true, true, true, false, false, false, false, false, false, false, false] rfl rfl (any_of HT_.out (by kernel_rfl)) (fun _ _ _ h => h) (Or.inr ⟨by rfl, rfl⟩) ?_ ?_
      rotate_left
      ·simp only [Act.put, List.setIfInBounds_toArray, List.set_cons_zero, List.set_cons_succ, i64_w, i32_w]
       rfl
      refine pure_ (i := 31) (N := some 152) (v := undef) (a' := ?_) #[true, true, true, true, true, true, true, true, true, true, true, true, true, true, true, true, true, true, true, true, true, true, true, true, true, true, true, true, true, true, true, true, false, false, false, false, false, false, false] rfl rfl (any_of HT_.out (by kernel_rfl)) (fun _ _ _ h => h) (Or.inr ⟨by rfl, rfl⟩) ?_ ?_
      rotate_left
      ·simp only [Act.put, List.setIfInBounds_toArray, List.set_cons_zero, List.set_cons_succ, i64_w, i32_w]
       rfl
      refine pure_ (i := 32) (N := some 153) (v := undef) (a' := ?_) #[true, true, true, true, true, true, true, true, true, true, true, true, true, true, true, true, true, true, true, true, true, true, true, true, true, true, true, true, true, true, true, true, true, false, false, false, false, false, false] rfl rfl (any_of HT_.out (by kernel_rfl)) (fun _ _ _ h => h) (Or.inr ⟨by rfl, rfl⟩) ?_ ?_
      rotate_left
      ·simp only [Act.put, List.setIfInBounds_toArray, List.set_cons_zero, List.set_cons_succ, i64_w, i32_w]
       rfl
      refine pure_ (i := 33) (N := some 154) (v := undef) (a' := ?_) #[true, true, true, true, true, true, true, true, true, true, true, true, true, true, true, true, true, true, true, true, true, true, true, true, true, true, true, true, true, true, true, true, true, true, false, false, false, false, false] rfl rfl (any_of HT_.out (by kernel_rfl)) (fun _ _ _ h => h) (Or.inr ⟨by rfl, rfl⟩) ?_ ?_
      rotate_left
      ·simp only [Act.put, List.setIfInBounds_toArray, List.set_cons_zero, List.set_cons_succ, i64_w, i32_w]
       rfl
      refine pure_ (i := 34) (N := some 155) (v := undef) (a' := ?_) #[true, true, true, true, true, true, true, true, true, true, true, true, true, true, true, true, true, true, true, true, true, true, true, true, true, true, true, true, true, true, true, true, true, true, true, false, false, false, false] rfl rfl (any_of HT_.out (by kernel_rfl)) (fun _ _ _ h => h) (Or.inr ⟨by rfl, rfl⟩) ?_ ?_
      rotate_left
      ·simp only [Act.put, List.setIfInBounds_toArray, List.set_cons_zero, List.set_cons_succ, i64_w, i32_w]
       rfl
      refine pure_ (i := 35) (N := some 156) (v := ?_) (a' := ?_) #[true, true, true, true, true, true, true, true, true, true, true, true, true, true, true, true, true, true, true, true, true, true, true, true, true, true, true, true, true, true, true, true, true, true, true, true, false, false, false] rfl rfl (any_of HT_.out (by kernel_rfl)) (fun _ _ _ h => h) (Or.inl ⟨by rfl, ?_⟩) ?_ ?_
      rotate_left
      ·intro w'
       go_simp
       with_reducible rfl
      rotate_left
      ·simp only [Act.put, List.setIfInBounds_toArray, List.set_cons_zero, List.set_cons_succ, i64_w, i32_w]
       rfl
      refine pure_ (i := 36) (N := some 157) (v := ?_) (a' := ?_) #[true, true, true, true, true, true, true, true, true, true, true, true, true, true, true, true, true, true, true, true, true, true, true, true, true, true, true, true, true, true, true, true, true, true, true, true, true, false, false] rfl rfl (any_of HT_.out (by kernel_rfl)) (fun _ _ _ h => h) (Or.inl ⟨by rfl, ?_⟩) ?_ ?_
      rotate_left
      ·intro w'
       go_simp
       with_reducible rfl
      rotate_left
      ·simp only [Act.put, List.setIfInBounds_toArray, List.set_cons_zero, List.set_cons_succ, i64_w, i32_w]
       rfl
      refine pure_ (i := 37) (N := some 158) (v := ?_) (a' := ?_) #[true, true, true, true, true, true, true, true, true, true, true, true, true, true, true, true, true, true, true, true, true, true, true, true, true, true, true, true, true, true, true, true, true, true, true, true, true, true, false] rfl rfl (any_of HT_.out (by kernel_rfl)) (fun _ _ _ h => h) (Or.inl ⟨by rfl, ?_⟩) ?_ ?_
      rotate_left
      ·intro w'
       go_simp
       with_reducible rfl
      rotate_left
      ·simp only [Act.put, List.setIfInBounds_toArray, List.set_cons_zero, List.set_cons_succ, i64_w, i32_w]
       rfl
      refine last_ (i := 38) (N := none) #[true, true, true, true, true, true, true, true, true, true, true, true, true, true, true, true, true, true, true, true, true, true, true, true, true, true, true, true, true, true, true, true, true, true, true, true, true, true, true] rfl rfl (one_of HT_.out (by kernel_rfl)) (by decide) (fun K hK => ?_)
      have hs1 : wn.cell? ⟨g, 5, none⟩ = some (.bool true) := (blk_cell Td.out.bT 5).trans rfl
      have hf1 := blk_frozen Td.out.bT 5
      refine skip_ (w1 := ?_) (by rfl) rfl ?_ ?_
      rotate_left
      ·go_simp
       rfl
      refine hK.out _ _ ?_
      clear hK K
      refine done_ (done_of HT_.out (by kernel_rfl)) ?_
      clear hs1 hf1 hHeld
      have T7 := Aside0.mk (set1 (x := false) (layI _ _) (by decide) Td.out)
      have F7 := Aside0.mk (Fd.out.set 5 (.bool (false)))
      have B7 := Aside0.mk (blk_far (p := ⟨g, 5, none⟩) Bd.out (blk_ne Bd.out Td.out.bT (by decide)) (.bool (false)))
      have R17 := Aside0.mk (Kd.R_set Rd1.out Td.out.bT (by decide) 5 (.bool (false)))
      have R37 := Aside0.mk (And.intro (Kd.R_set Rd3.out.1 Td.out.bT (by decide) 5 (.bool (false))) Rd3.out.2)
      clear Td Bd Rd1 Rd3 Fd hcut1 hcut2 HC1 HC2
      generalize hwx : wn.setCell ⟨g, 5, none⟩ _ = w7 at T7 F7 B7 R17 R37 ⊢
      clear hwx
      go_wp2
      have hw : wrap64 ((kk : Int) + 1) = ((kk + 1 : Nat) : Int) := by unfold wrap64; omega
      have HW := Aside0.mk hw
      clear hw
      go_roundg (kids.length - (kk + 1))
      case measure => omega
      case rel =>
       have hml := HLK.out.2
       have hln := HLN.out
       have e1 : (kk + 1) * N = kk * N + N := Nat.succ_mul _ _
       have e2 : (kk + 1) * (4 * N) = kk * (4 * N) + 4 * N := Nat.succ_mul _ _
       exact ⟨kk + 1, ⟨pgn, prn, dpn, false, false⟩, Agn, cgn, Apn, cpn, Adn, cdn, by omega, by omega, by first | rfl | exact congrArg (Value.int .i64) HW.out, T7, B7, R17, R37, F7, ⟨by have := HE.out; simpa using this⟩, ⟨rfl, by show pr.length ≤ prn.length; omega, by show pgn.length ≤ _; rw [e1]; omega, by show prn.length ≤ _; rw [e2]; omega, by show dpn.length ≤ _; rw [e1]; omega⟩⟩
     | false =>
      subst hbb
      have Td := Aside0.mk TN'.out.drew
      have Bd := Aside0.mk (blk_below BN6.out (Below.refl _ _).drew)
      have Rd1 := Aside0.mk (Kd.R_below R16.out (Below.refl _ _).drew)
      have Rd3 := Aside0.mk (And.intro (Kd.R_below R36.out.1 (Below.refl _ _).drew) R36.out.2)
      have Fd := Aside0.mk (HF6.out.below (Below.refl _ _).drew)
      clear TN' BN6 R16 R36 HF6 hd66 hg6
      refine start_ (n := 39) (S := fun w' => w'.cell? ⟨g, 5, none⟩ = some (.bool true) ∧ w'.cell? ⟨g, 3, none⟩ = some (.slice Apn prn.length cpn) ∧ w'.cell? ⟨gN, 1, none⟩ = some (.slice (some ad1) keys.length c1) ∧ w'.cell? (ad1.add kk) = some (.string key)) (ds := [38]) #[false, false, false, false, false, false, false, false, false, false, false, false, false, false, false, false, false, false, false, false, false, false, false, false, false, false, false, false, false, false, false, false, false, false, false, false, false, false, false] (by kernel_rfl) rfl rfl ⟨(blk_cell Td.out.bT 5).trans rfl, (blk_cell Td.out.bT 3).trans rfl, (blk_cell Bd.out 1).trans rfl, (seen_str Rd1.out hlk).trans (by rw [HKEY2.out])⟩ (fun hHeld => ?_); refine with_tabW impl_down.tab18 impl_down.bits18 (fun HT_ HW_ => ?_)
      generalize w6.drew = wd at Td Bd Rd1 Rd3 Fd hHeld ⊢
      refine pure_ (i := 0) (N := some 121) (v := ?_) (a' := ?_) #[true, false, false, false, false, false, false, false, false, false, false, false, false, false, false, false, false, false, false, false, false, false, false, false, false, false, false, false, false, false, false, false, false, false, false, false, false, false, false] rfl rfl (any_of HT_.out (by kernel_rfl)) (fun _ _ _ h => h) (Or.inl ⟨by rfl, ?_⟩) ?_ ?_
      rotate_left
      ·intro w'
       go_simp
       with_reducible rfl
      rotate_left
      ·simp only [Act.put, List.setIfInBounds_toArray, List.set_cons_zero, List.set_cons_succ, i64_w, i32_w]
       rfl
      refine pure_ (i := 1) (N := some 122) (v := ?_) (a' := ?_) #[true, true, false, false, false, false, false, false, false, false, false, false, false, false, false, false, false, false, false, false, false, false, false, false, false, false, false, false, false, false, false, false, false, false, false, false, false, false, false] rfl rfl (any_of HT_.out (by kernel_rfl)) (fun _ _ _ h => h) (Or.inl ⟨by rfl, ?_⟩) ?_ ?_
      rotate_left
      ·intro w'
       go_simp
       with_reducible rfl
      rotate_left
      ·simp only [Act.put, List.setIfInBounds_toArray, List.set_cons_zero, List.set_cons_succ, i64_w, i32_w]
       rfl
      refine pure_ (i := 2) (N := some 123) (v := ?_) (a' := ?_) #[true, true, true, false, false, false, false, false, false, false, false, false, false, false, false, false, false, false, false, false, false, false, false, false, false, false, false, false, false, false, false, false, false, false, false, false, false, false, false] rfl rfl (any_of HT_.out (by kernel_rfl)) (fun _ _ _ h => h) (Or.inl ⟨by rfl, ?_⟩) ?_ ?_
      rotate_left
      ·intro w'
       go_simp
       with_reducible rfl
      rotate_left
      ·simp only [Act.put, List.setIfInBounds_toArray, List.set_cons_zero, List.set_cons_succ, i64_w, i32_w]
       rfl
      refine pure_ (i := 3) (N := some 124) (v := ?_) (a' := ?_) #[true, true, true, true, false, false, false, false, false, false, false, false, false, false, false, false, false, false, false, false, false, false, false, false, false, false, false, false, false, false, false, false, false, false, false, false, false, false, false] rfl rfl (any_of HT_.out (by kernel_rfl)) (fun _ _ _ h => h) (Or.inl ⟨by rfl, ?_⟩) ?_ ?_
      rotate_left
      ·intro w'
       go_simp
       with_reducible rfl
      rotate_left
      ·simp only [Act.put, List.setIfInBounds_toArray, List.set_cons_zero, List.set_cons_succ, i64_w, i32_w]
       rfl
      refine take_ (i := 4) (N := some 125) (v := ?_) (a' := ?_) #[true, true, true, true, true, false, false, false, false, false, false, false, false, false, false, false, false, false, false, false, false, false, false, false, false, false, false, false, false, false, false, false, false, false, false, false, false, false, false] rfl rfl (take_ofW HT_.out HW_.out (by kernel_rfl)) (fun _ _ _ h => h) (Or.inl ⟨by rfl, ?_⟩) hHeld ?_ ?_
      rotate_left
      ·rintro w' ⟨s0, s1, s2, s3⟩
       go_simp
       with_reducible rfl
      rotate_left
      ·simp only [Act.put, List.setIfInBounds_toArray, List.set_cons_zero, List.set_cons_succ, i64_w, i32_w]
       rfl
      refine pure_ (i := 5) (N := some 126) (v := ?_) (a' := ?_) #[true, true, true, true, true, true, false, false, false, false, false, false, false, false, false, false, false, false, false, false, false, false, false, false, false, false, false, false, false, false, false, false, false, false, false, false, false, false, false] rfl rfl (any_of HT_.out (by kernel_rfl)) (fun _ _ _ h => h) (Or.inl ⟨by rfl, ?_⟩) ?_ ?_
      rotate_left
      ·intro w'
       go_simp
       with_reducible rfl
      rotate_left
      ·simp only [Act.put, List.setIfInBounds_toArray, List.set_cons_zero, List.set_cons_succ, i64_w, i32_w]
       rfl
      refine pure_ (i := 6) (N := some 127) (v := ?_) (a' := ?_) #[true, true, true, true, true, true, true, false, false, false, false, false, false, false, false, false, false, false, false, false, false, false, false, false, false, false, false, false, false, false, false, false, false, false, false, false, false, false, false] rfl rfl (any_of HT_.out (by kernel_rfl)) (fun _ _ _ h => h) (Or.inl ⟨by rfl, ?_⟩) ?_ ?_
      rotate_left
      ·intro w'
       go_simp
       with_reducible rfl
      rotate_left
      ·simp only [Act.put, List.setIfInBounds_toArray, List.set_cons_zero, List.set_cons_succ, i64_w, i32_w]
       rfl
      refine pure_ (i := 7) (N := some 128) (v := ?_) (a' := ?_) #[true, true, true, true, true, true, true, true, false, false, false, false, false, false, false, false, false, false, false, false, false, false, false, false, false, false, false, false, false, false, false, false, false, false, false, false, false, false, false] rfl rfl (any_of HT_.out (by kernel_rfl)) (fun _ _ _ h => h) (Or.inl ⟨by rfl, ?_⟩) ?_ ?_
      rotate_left
      ·intro w'
       go_simp
       with_reducible rfl
      rotate_left
      ·simp only [Act.put, List.setIfInBounds_toArray, List.set_cons_zero, List.set_cons_succ, i64_w, i32_w]
       rfl
      refine pure_ (i := 8) (N := some 129) (v := ?_) (a' := ?_) #[true, true, true, true, true, true, true, true, true, false, false, false, false, false, false, false, false, false, false, false, false, false, false, false, false, false, false, false, false, false, false, false, false, false, false, false, false, false, false] rfl rfl (any_of HT_.out (by kernel_rfl)) (fun _ _ _ h => h) (Or.inl ⟨by rfl, ?_⟩) ?_ ?_
      rotate_left
      ·intro w'
       go_simp
       with_reducible rfl
      rotate_left
      ·simp only [Act.put, List.setIfInBounds_toArray, List.set_cons_zero, List.set_cons_succ, i64_w, i32_w]
       rfl
      refine take_ (i := 9) (N := some 130) (v := ?_) (a' := ?_) #[true, true, true, true, true, true, true, true, true, true, false, false, false, false, false, false, false, false, false, false, false, false, false, false, false, false, false, false, false, false, false, false, false, false, false, false, false, false, false] rfl rfl (take_ofW HT_.out HW_.out (by kernel_rfl)) (fun _ _ _ h => h) (Or.inl ⟨by rfl, ?_⟩) hHeld ?_ ?_
      rotate_left
      ·rintro w' ⟨s0, s1, s2, s3⟩
       go_simp
       with_reducible rfl
      rotate_left
      ·simp only [Act.put, List.setIfInBounds_toArray, List.set_cons_zero, List.set_cons_succ, i64_w, i32_w]
       rfl
      refine pure_ (i := 10) (N := some 131) (v := ?_) (a' := ?_) #[true, true, true, true, true, true, true, true, true, true, true, false, false, false, false, false, false, false, false, false, false, false, false, false, false, false, false, false, false, false, false, false, false, false, false, false, false, false, false] rfl rfl (any_of HT_.out (by kernel_rfl)) (fun _ _ _ h => h) (Or.inl ⟨by rfl, ?_⟩) ?_ ?_
      rotate_left
      ·intro w'
       go_simp
       with_reducible rfl
      rotate_left
      ·simp only [Act.put, List.setIfInBounds_toArray, List.set_cons_zero, List.set_cons_succ, i64_w, i32_w]
       rfl
      refine pure_ (i := 11) (N := some 132) (v := ?_) (a' := ?_) #[true, true, true, true, true, true, true, true, true, true, true, true, false, false, false, false, false, false, false, false, false, false, false, false, false, false, false, false, false, false, false, false, false, false, false, false, false, false, false] rfl rfl (any_of HT_.out (by kernel_rfl)) (fun _ _ _ h => h) (Or.inl ⟨by rfl, ?_⟩) ?_ ?_
      rotate_left
      ·intro w'
       go_simp
       with_reducible rfl
      rotate_left
      ·simp only [Act.put, List.setIfInBounds_toArray, List.set_cons_zero, List.set_cons_succ, i64_w, i32_w]
       rfl
      refine pure_ (i := 12) (N := some 133) (v := ?_) (a' := ?_) #[true, true, true, true, true, true, true, true, true, true, true, true, true, false, false, false, false, false, false, false, false, false, false, false, false, false, false, false, false, false, false, false, false, false, false, false, false, false, false] rfl rfl (any_of HT_.out (by kernel_rfl)) (fun _ _ _ h => h) (Or.inl ⟨by rfl, ?_⟩) ?_ ?_
      rotate_left
      ·intro w'
       go_simp
       with_reducible rfl
      rotate_left
      ·simp only [Act.put, List.setIfInBounds_toArray, List.set_cons_zero, List.set_cons_succ, i64_w, i32_w]
       rfl
      refine take_ (i := 13) (N := some 134) (v := ?_) (a' := ?_) #[true, true, true, true, true, true, true, true, true, true, true, true, true, true, false, false, false, false, false, false, false, false, false, false, false, false, false, false, false, false, false, false, false, false, false, false, false, false, false] rfl rfl (take_ofW HT_.out HW_.out (by kernel_rfl)) (fun _ _ _ h => h) (Or.inl ⟨by rfl, ?_⟩) hHeld ?_ ?_
      rotate_left
      ·rintro w' ⟨s0, s1, s2, s3⟩
       go_simp
       with_reducible rfl
      rotate_left
      ·simp only [Act.put, List.setIfInBounds_toArray, List.set_cons_zero, List.set_cons_succ, i64_w, i32_w]
       rfl
      refine pure_ (i := 14) (N := some 135) (v := ?_) (a' := ?_) #[true, true, true, true, true, true, true, true, true, true, true, true, true, true, true, false, false, false, false, false, false, false, false, false, false, false, false, false, false, false, false, false, false, false, false, false, false, false, false] rfl rfl (any_of HT_.out (by kernel_rfl)) (fun _ _ _ h => h) (Or.inl ⟨by rfl, ?_⟩) ?_ ?_
      rotate_left
      ·intro w'
       go_simp
       with_reducible rfl
      rotate_left
      ·simp only [Act.put, List.setIfInBounds_toArray, List.set_cons_zero, List.set_cons_succ, i64_w, i32_w]
       rfl
      refine pure_ (i := 15) (N := some 136) (v := ?_) (a' := ?_) #[true, true, true, true, true, true, true, true, true, true, true, true, true, true, true, true, false, false, false, false, false, false, false, false, false, false, false, false, false, false, false, false, false, false, false, false, false, false, false] rfl rfl (any_of HT_.out (by kernel_rfl)) (fun _ _ _ h => h) (Or.inl ⟨by rfl, ?_⟩) ?_ ?_
      rotate_left
      ·intro w'
       go_simp
       with_reducible rfl
      rotate_left
      ·simp only [Act.put, List.setIfInBounds_toArray, List.set_cons_zero, List.set_cons_succ, i64_w, i32_w]
       rfl
      refine take_ (i := 16) (N := some 137) (v := ?_) (a' := ?_) #[true, true, true, true, true, true, true, true, true, true, true, true, true, true, true, true, true, false, false, false, false, false, false, false, false, false, false, false, false, false, false, false, false, false, false, false, false, false, false] rfl rfl (take_ofW HT_.out HW_.out (by kernel_rfl)) (fun _ _ _ h => h) (Or.inl ⟨by rfl, ?_⟩) hHeld ?_ ?_
      rotate_left
      ·rintro w' ⟨s0, s1, s2, s3⟩
       go_simp
       with_reducible rfl
      rotate_left
      ·simp only [Act.put, List.setIfInBounds_toArray, List.set_cons_zero, List.set_cons_succ, i64_w, i32_w]
       rfl
      refine one_ (i := 17) (N := some 138) #[true, true, true, true, true, true, true, true, true, true, true, true, true, true, true, true, true, true, false, false, false, false, false, false, false, false, false, false, false, false, false, false, false, false, false, false, false, false, false] rfl rfl (one_of HT_.out (by kernel_rfl)) (by decide) (fun K hK => ?_)
      refine goes_ Try.func161 (by kernel_rfl) rfl #[.slice Ac1 (prn.length - pri.length) (cpn - pri.length), .string key] (by rfl) rfl rfl (by (try simp only [List.map_toArray, List.map_cons, List.map_nil]); first | done | rfl) ?_
      with_reducible refine (HC1.out _ key false (R_seen Td.out.rp).2 HBL.out).mono ?_
      rintro e wn ⟨rfl, hbn⟩
      refine ⟨_, rfl, ?_⟩
      have Td_ := Aside0.mk (Td.out.below hbn)
      have Bd_ := Aside0.mk (blk_below Bd.out hbn)
      have Rd1_ := Aside0.mk (Kd.R_below Rd1.out hbn)
      have Rd3_ := Aside0.mk (And.intro (Kd.R_below Rd3.out.1 hbn) Rd3.out.2)
      have Fd_ := Aside0.mk (Fd.out.below hbn)
      clear Td Bd Rd1 Rd3 Fd hbn
      have Td := Td_
      have Bd := Bd_
      have Rd1 := Rd1_
      have Rd3 := Rd3_
      have Fd := Fd_
      clear Td_ Bd_ Rd1_ Rd3_ Fd_
      refine hK.out _ _ ⟨(blk_cell Td.out.bT 5).trans rfl, (blk_cell Td.out.bT 3).trans rfl, (blk_cell Bd.out 1).trans rfl, (seen_str Rd1.out hlk).trans (by rw [HKEY2.out])⟩ (fun hHeld => ?_)
      clear hK K
      refine norm_ (a' := ?_) ?_ ?_
      rotate_left
      ·show Act.put _ (some 138) _ = _
       simp only [Act.put, List.setIfInBounds_toArray, List.set_cons_zero, List.set_cons_succ, i64_w, i32_w]
       rfl
      refine pure_ (i := 18) (N := some 139) (v := ?_) (a' := ?_) #[true, true, true, true, true, true, true, true, true, true, true, true, true, true, true, true, true, true, true, false, false, false, false, false, false, false, false, false, false, false, false, false, false, false, false, false, false, false, false] rfl rfl (any_of HT_.out (by kernel_rfl)) (fun _ _ _ h => h) (Or.inl ⟨by rfl, ?_⟩) ?_ ?_
      rotate_left
      ·intro w'
       go_simp
       with_reducible rfl
      rotate_left
      ·simp only [Act.put, List.setIfInBounds_toArray, List.set_cons_zero, List.set_cons_succ, i64_w, i32_w]
       rfl
      refine pure_ (i := 19) (N := some 140) (v := ?_) (a' := ?_) #[true, true, true, true, true, true, true, true, true, true, true, true, true, true, true, true, true, true, true, true, false, false, false, false, false, false, false, false, false, false, false, false, false, false, false, false, false, false, false] rfl rfl (any_of HT_.out (by kernel_rfl)) (fun _ _ _ h => h) (Or.inl ⟨by rfl, ?_⟩) ?_ ?_
      rotate_left
      ·intro w'
       go_simp
       with_reducible rfl
      rotate_left
      ·simp only [Act.put, List.setIfInBounds_toArray, List.set_cons_zero, List.set_cons_succ, i64_w, i32_w]
       rfl
      refine pure_ (i := 20) (N := some 141) (v := ?_) (a' := ?_) #[true, true, true, true, true, true, true, true, true, true, true, true, true, true, true, true, true, true, true, true, true, false, false, false, false, false, false, false, false, false, false, false, false, false, false, false, false, false, false] rfl rfl (any_of HT_.out (by kernel_rfl)) (fun _ _ _ h => h) (Or.inl ⟨by rfl, ?_⟩) ?_ ?_
      rotate_left
      ·intro w'
       go_simp
       with_reducible rfl
      rotate_left
      ·simp only [Act.put, List.setIfInBounds_toArray, List.set_cons_zero, List.set_cons_succ, i64_w, i32_w]
       rfl
      refine pure_ (i := 21) (N := some 142) (v := ?_) (a' := ?_) #[true, true, true, true, true, true, true, true, true, true, true, true, true, true, true, true, true, true, true, true, true, true, false, false, false, false, false, false, false, false, false, false, false, false, false, false, false, false, false] rfl rfl (any_of HT_.out (by kernel_rfl)) (fun _ _ _ h => h) (Or.inl ⟨by rfl, ?_⟩) ?_ ?_
      rotate_left
      ·intro w'
       go_simp
       with_reducible rfl
      rotate_left
      ·simp only [Act.put, List.setIfInBounds_toArray, List.set_cons_zero, List.set_cons_succ, i64_w, i32_w]
       rfl
      refine pure_ (i := 22) (N := some 143) (v := ?_) (a' := ?_) #[true, true, true, true, true, true, true, true, true, true, true, true, true, true, true, true, true, true, true, true, true, true, true, false, false, false, false, false, false, false, false, false, false, false, false, false, false, false, false] rfl rfl (any_of HT_.out (by kernel_rfl)) (fun _ _ _ h => h) (Or.inl ⟨by rfl, ?_⟩) ?_ ?_
      rotate_left
      ·intro w'
       go_simp
       with_reducible rfl
      rotate_left
      ·simp only [Act.put, List.setIfInBounds_toArray, List.set_cons_zero, List.set_cons_succ, i64_w, i32_w]
       rfl
      refine pure_ (i := 23) (N := some 144) (v := ?_) (a' := ?_) #[true, true, true, true, true, true, true, true, true, true, true, true, true, true, true, true, true, true, true, true, true, true, true, true, false, false, false, false, false, false, false, false, false, false, false, false, false, false, false] rfl rfl (any_of HT_.out (by kernel_rfl)) (fun _ _ _ h => h) (Or.inl ⟨by rfl, ?_⟩) ?_ ?_
      rotate_left
      ·intro w'
       go_simp
       with_reducible rfl
      rotate_left
      ·simp only [Act.put, List.setIfInBounds_toArray, List.set_cons_zero, List.set_cons_succ, i64_w, i32_w]
       rfl
      refine take_ (i := 24) (N := some 145) (v := ?_) (a' := ?_) #[true, true, true, true, true, true, true, true, true, true, true, true, true, true, true, true, true, true, true, true, true, true, true, true, true, false, false, false, false, false, false, false, false, false, false, false, false, false, false] rfl rfl (take_ofW HT_.out HW_.out (by kernel_rfl)) (fun _ _ _ h => h) (Or.inl ⟨by rfl, ?_⟩) hHeld ?_ ?_
      rotate_left
      ·rintro w' ⟨s0, s1, s2, s3⟩
       go_simp
       with_reducible rfl
      rotate_left
      ·simp only [Act.put, List.setIfInBounds_toArray, List.set_cons_zero, List.set_cons_succ, i64_w, i32_w]
       rfl
      refine pure_ (i := 25) (N := some 146) (v := ?_) (a' := ?_) #[true, true, true, true, true, true, true, true, true, true, true, true, true, true, true, true, true, true, true, true, true, true, true, true, true, true, false, false, false, false, false, false, false, false, false, false, false, false, false] rfl rfl (any_of HT_.out (by kernel_rfl)) (fun _ _ _ h => h) (Or.inl ⟨by rfl, ?_⟩) ?_ ?_
      rotate_left
      ·intro w'
       go_simp
       with_reducible rfl
      rotate_left
      ·simp only [Act.put, List.setIfInBounds_toArray, List.set_cons_zero, List.set_cons_succ, i64_w, i32_w]
       rfl
      refine pure_ (i := 26) (N := some 147) (v := ?_) (a' := ?_) #[true, true, true, true, true, true, true, true, true, true, true, true, true, true, true, true, true, true, true, true, true, true, true, true, true, true, true, false, false, false, false, false, false, false, false, false, false, false, false] rfl rfl (any_of HT_.out (by kernel_rfl)) (fun _ _ _ h => h) (Or.inl ⟨by rfl, ?_⟩) ?_ ?_
      rotate_left
      ·intro w'
       go_simp
       with_reducible rfl
      rotate_left
      ·simp only [Act.put, List.setIfInBounds_toArray, List.set_cons_zero, List.set_cons_succ, i64_w, i32_w]
       rfl
      refine pure_ (i := 27) (N := some 148) (v := ?_) (a' := ?_) #[true, true, true, true, true, true, true, true, true, true, true, true, true, true, true, true, true, true, true, true, true, true, true, true, true, true, true, true, false, false, false, false, false, false, false, false, false, false, false] rfl rfl (any_of HT_.out (by kernel_rfl)) (fun _ _ _ h => h) (Or.inl ⟨by rfl, ?_⟩) ?_ ?_
      rotate_left
      ·intro w'
       go_simp
       with_reducible rfl
      rotate_left
      ·simp only [Act.put, List.setIfInBounds_toArray, List.set_cons_zero, List.set_cons_succ, i64_w, i32_w]
       rfl
      refine pure_ (i := 28) (N := some 149) (v := ?_) (a' := ?_) #[true, true, true, true, true, true, true, true, true, true, true, true, true, true, true, true, true, true, true, true, true, true, true, true, true, true, true, true, true, false, false, false, false, false, false, false, false, false, false] rfl rfl (any_of HT_.out (by kernel_rfl)) (fun _ _ _ h => h) (Or.inl ⟨by rfl, ?_⟩) ?_ ?_
      rotate_left
      ·intro w'
       go_simp
       with_reducible rfl
      rotate_left
      ·simp only [Act.put, List.setIfInBounds_toArray, List.set_cons_zero, List.set_cons_succ, i64_w, i32_w]
       rfl
      refine take_ (i := 29) (N := some 150) (v := ?_) (a' := ?_) #[true, true, true, true, true, true, true, true, true, true, true, true, true, true, true, true, true, true, true, true, true, true, true, true, true, true, true, true, true, true, false, false, false, false, false, false, false, false, false] rfl rfl (take_ofW HT_.out HW_.out (by kernel_rfl)) (fun _ _ _ h => h) (Or.inl ⟨by rfl, ?_⟩) hHeld ?_ ?_
      rotate_left
      ·rintro w' ⟨s0, s1, s2, s3⟩
       go_simp
       with_reducible rfl
      rotate_left
      ·simp only [Act.put, List.setIfInBounds_toArray, List.set_cons_zero, List.set_cons_succ, i64_w, i32_w]
       rfl
      refine pure_ (i := 30) (N := some 151) (v := ?_) (a' := ?_) #[true, true, true, true, true, true, true, true, true, true, true, true, true, true, true, true, true, true, true, true, true, true, true, true, true, true, true, true, true, true, true, false, false, false, false, false, false, false, false] rfl rfl (any_of HT_.out (by kernel_rfl)) (fun _ _ _ h => h) (Or.inl ⟨by rfl, ?_⟩) ?_ ?_
      rotate_left
      ·intro w'
       go_simp
       with_reducible rfl
      rotate_left
      ·simp only [Act.put, List.setIfInBounds_toArray, List.set_cons_zero, List.set_cons_succ, i64_w, i32_w]
       rfl
      refine pure_ (i := 31) (N := some 152) (v := ?_) (a' := ?_) #[true, true, true, true, true, true, true, true, true, true, true, true, true, true, true, true, true, true, true, true, true, true, true, true, true, true, true, true, true, true, true, true, false, false, false, false, false, false, false] rfl rfl (any_of HT_.out (by kernel_rfl)) (fun _ _ _ h => h) (Or.inl ⟨by rfl, ?_⟩) ?_ ?_
      rotate_left
      ·intro w'
       go_simp
       with_reducible rfl
      rotate_left
      ·simp only [Act.put, List.setIfInBounds_toArray, List.set_cons_zero, List.set_cons_succ, i64_w, i32_w]
       rfl
      refine take_ (i := 32) (N := some 153) (v := ?_) (a' := ?_) #[true, true, true, true, true, true, true, true, true, true, true, true, true, true, true, true, true, true, true, true, true, true, true, true, true, true, true, true, true, true, true, true, true, false, false, false, false, false, false] rfl rfl (take_ofW HT_.out HW_.out (by kernel_rfl)) (fun _ _ _ h => h) (Or.inl ⟨by rfl, ?_⟩) hHeld ?_ ?_
      rotate_left
      ·rintro w' ⟨s0, s1, s2, s3⟩
       go_simp
       with_reducible rfl
      rotate_left
      ·simp only [Act.put, List.setIfInBounds_toArray, List.set_cons_zero, List.set_cons_succ, i64_w, i32_w]
       rfl
      refine one_ (i := 33) (N := some 154) #[true, true, true, true, true, true, true, true, true, true, true, true, true, true, true, true, true, true, true, true, true, true, true, true, true, true, true, true, true, true, true, true, true, true, false, false, false, false, false] rfl rfl (one_of HT_.out (by kernel_rfl)) (by decide) (fun K hK => ?_)
      refine goes_ Try.func162 (by kernel_rfl) rfl #[.slice Ac2 (pri.length - pr.length) (cpn - pr.length), .string key] (by rfl) rfl rfl (by (try simp only [List.map_toArray, List.map_cons, List.map_nil]); first | done | rfl) ?_
      with_reducible refine (HC2.out _ key fr (R_seen Td.out.rp).2 HFR.out).mono ?_
      rintro e wn ⟨rfl, hbn⟩
      refine ⟨_, rfl, ?_⟩
      have Td_ := Aside0.mk (Td.out.below hbn)
      have Bd_ := Aside0.mk (blk_below Bd.out hbn)
      have Rd1_ := Aside0.mk (Kd.R_below Rd1.out hbn)
      have Rd3_ := Aside0.mk (And.intro (Kd.R_below Rd3.out.1 hbn) Rd3.out.2)
      have Fd_ := Aside0.mk (Fd.out.below hbn)
      clear Td Bd Rd1 Rd3 Fd hbn
      have Td := Td_
      have Bd := Bd_
      have Rd1 := Rd1_
      have Rd3 := Rd3_
      have Fd := Fd_
      clear Td_ Bd_ Rd1_ Rd3_ Fd_
      refine hK.out _ _ ⟨(blk_cell Td.out.bT 5).trans rfl, (blk_cell Td.out.bT 3).trans rfl, (blk_cell Bd.out 1).trans rfl, (seen_str Rd1.out hlk).trans (by rw [HKEY2.out])⟩ (fun hHeld => ?_)
      clear hK K
      refine norm_ (a' := ?_) ?_ ?_
      rotate_left
      ·show Act.put _ (some 154) _ = _
       simp only [Act.put, List.setIfInBounds_toArray, List.set_cons_zero, List.set_cons_succ, i64_w, i32_w]
       rfl
      refine pure_ (i := 34) (N := some 155) (v := ?_) (a' := ?_) #[true, true, true, true, true, true, true, true, true, true, true, true, true, true, true, true, true, true, true, true, true, true, true, true, true, true, true, true, true, true, true, true, true, true, true, false, false, false, false] rfl rfl (any_of HT_.out (by kernel_rfl)) (fun _ _ _ h => h) (Or.inl ⟨by rfl, ?_⟩) ?_ ?_
      rotate_left
      ·intro w'
       go_simp
       with_reducible rfl
      rotate_left
      ·simp only [Act.put, List.setIfInBounds_toArray, List.set_cons_zero, List.set_cons_succ, i64_w, i32_w]
       rfl
      refine pure_ (i := 35) (N := some 156) (v := ?_) (a' := ?_) #[true, true, true, true, true, true, true, true, true, true, true, true, true, true, true, true, true, true, true, true, true, true, true, true, true, true, true, true, true, true, true, true, true, true, true, true, false, false, false] rfl rfl (any_of HT_.out (by kernel_rfl)) (fun _ _ _ h => h) (Or.inl ⟨by rfl, ?_⟩) ?_ ?_
      rotate_left
      ·intro w'
       go_simp
       with_reducible rfl
      rotate_left
      ·simp only [Act.put, List.setIfInBounds_toArray, List.set_cons_zero, List.set_cons_succ, i64_w, i32_w]
       rfl
      refine pure_ (i := 36) (N := some 157) (v := ?_) (a' := ?_) #[true, true, true, true, true, true, true, true, true, true, true, true, true, true, true, true, true, true, true, true, true, true, true, true, true, true, true, true, true, true, true, true, true, true, true, true, true, false, false] rfl rfl (any_of HT_.out (by kernel_rfl)) (fun _ _ _ h => h) (Or.inl ⟨by rfl, ?_⟩) ?_ ?_
      rotate_left
      ·intro w'
       go_simp
       with_reducible rfl
      rotate_left
      ·simp only [Act.put, List.setIfInBounds_toArray, List.set_cons_zero, List.set_cons_succ, i64_w, i32_w]
       rfl
      refine pure_ (i := 37) (N := some 158) (v := ?_) (a' := ?_) #[true, true, true, true, true, true, true, true, true, true, true, true, true, true, true, true, true, true, true, true, true, true, true, true, true, true, true, true, true, true, true, true, true, true, true, true, true, true, false] rfl rfl (any_of HT_.out (by kernel_rfl)) (fun _ _ _ h => h) (Or.inl ⟨by rfl, ?_⟩) ?_ ?_
      rotate_left
      ·intro w'
       go_simp
       with_reducible rfl
      rotate_left
      ·simp only [Act.put, List.setIfInBounds_toArray, List.set_cons_zero, List.set_cons_succ, i64_w, i32_w]
       rfl
      refine last_ (i := 38) (N := none) #[true, true, true, true, true, true, true, true, true, true, true, true, true, true, true, true, true, true, true, true, true, true, true, true, true, true, true, true, true, true, true, true, true, true, true, true, true, true, true] rfl rfl (one_of HT_.out (by kernel_rfl)) (by decide) (fun K hK => ?_)
      have hs1 : wn.cell? ⟨g, 5, none⟩ = some (.bool true) := (blk_cell Td.out.bT 5).trans rfl
      have hf1 := blk_frozen Td.out.bT 5
      refine skip_ (w1 := ?_) (by rfl) rfl ?_ ?_
      rotate_left
      ·go_simp
       rfl
      refine hK.out _ _ ?_
      clear hK K
      refine done_ (done_of HT_.out (by kernel_rfl)) ?_
      clear hs1 hf1 hHeld
      have T7 := Aside0.mk (set1 (x := !fr) (layI _ _) (by decide) Td.out)
      have F7 := Aside0.mk (Fd.out.set 5 (.bool (!fr)))
      have B7 := Aside0.mk (blk_far (p := ⟨g, 5, none⟩) Bd.out (blk_ne Bd.out Td.out.bT (by decide)) (.bool (!fr)))
      have R17 := Aside0.mk (Kd.R_set Rd1.out Td.out.bT (by decide) 5 (.bool (!fr)))
      have R37 := Aside0.mk (And.intro (Kd.R_set Rd3.out.1 Td.out.bT (by decide) 5 (.bool (!fr))) Rd3.out.2)
      clear Td Bd Rd1 Rd3 Fd hcut1 hcut2 HC1 HC2
      generalize hwx : wn.setCell ⟨g, 5, none⟩ _ = w7 at T7 F7 B7 R17 R37 ⊢
      clear hwx
      go_wp2
      have hw : wrap64 ((kk : Int) + 1) = ((kk + 1 : Nat) : Int) := by unfold wrap64; omega
      have HW := Aside0.mk hw
      clear hw
      go_roundg (kids.length - (kk + 1))
      case measure => omega
      case rel =>
       have hml := HLK.out.2
       have hln := HLN.out
       have e1 : (kk + 1) * N = kk * N + N := Nat.succ_mul _ _
       have e2 : (kk + 1) * (4 * N) = kk * (4 * N) + 4 * N := Nat.succ_mul _ _
       exact ⟨kk + 1, ⟨pgn, prn, dpn, !fr, false⟩, Agn, cgn, Apn, cpn, Adn, cdn, by omega, by omega, by first | rfl | exact congrArg (Value.int .i64) HW.out, T7, B7, R17, R37, F7, ⟨by have := HE.out; simpa using this⟩, ⟨rfl, by show pr.length ≤ prn.length; omega, by show pgn.length ≤ _; rw [e1]; omega, by show prn.length ≤ _; rw [e2]; omega, by show dpn.length ≤ _; rw [e1]; omega⟩⟩
  ·have hltz : ¬ (kk : Int) < (kids.length : Int) := by omega
   have : kk = kids.length := by omega
   subst this
   have HE := Aside0.mk (show sti = RES by rw [← HRK.out, Nat.sub_self, dnKids])
   go_wp2
   refine bodyPost_ret (results_list (rs := []) (vs := []) rfl (by simp) Vals.nil) rfl ?_
   rw [← HE.out]
   have TK' := TK.out
   rw [← HLK.out.1] at TK'
   exact ⟨rfl, _, _, _, _, _, _, TK', HFK.out⟩
end Go.Proofs.Ytapholbdjccapaa.PFnExactTreeOk
