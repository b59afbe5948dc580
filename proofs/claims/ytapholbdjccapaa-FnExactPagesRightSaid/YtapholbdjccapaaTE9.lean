import Derived.Test.YtapholbdjccapaaTE8
set_option maxHeartbeats 64000000
set_option maxRecDepth 100000
set_option linter.unusedVariables false
set_option linter.unusedSimpArgs false
namespace Go.Proofs.Ytapholbdjccapaa.PFnExactTreeOk
open Go.RowKit Go.Proofs.YtapholbdjccapaaW.PrintWords Go.Proofs.YtapholbdjccapaaW.PrintLast Go.Proofs.YtapholbdjccapaaW.PrintMore
attribute [local go_sem] max2_int min2_int max_two min_two max_three min_three max_four min_four
def fl (n k : Nat) : Array Bool := ((List.range n).map fun i => decide (i < k)).toArray
structure TSt where
 pg : List Int
 pr : List S140
 dp : List Int
 order : Bool
 bad : Bool
def pairsTo (keys vals : List ByteArray) (n : Nat) : List S140 := (List.range n).map fun i => ⟨keys.getD i ByteArray.empty, vals.getD i ByteArray.empty⟩
def belowK (key : ByteArray) (x : S140) : Bool := Op.bytesLess x.f0.toList key.toList
def dnKids (rec_ : TSt → Int → TSt) (keys : List ByteArray) (kids : List Int) (first : Nat) : Nat → Nat → TSt → TSt
 | _, 0, st => st
 | i, n + 1, st =>
  if (rec_ st (kids.getD i 0)).bad = true then rec_ st (kids.getD i 0)
  else dnKids rec_ keys kids first (i + 1) n
   ⟨(rec_ st (kids.getD i 0)).pg, (rec_ st (kids.getD i 0)).pr, (rec_ st (kids.getD i 0)).dp,
    (rec_ st (kids.getD i 0)).order && !(((rec_ st (kids.getD i 0)).pr.drop st.pr.length).any (belowK (keys.getD i ByteArray.empty))) && !((((rec_ st (kids.getD i 0)).pr.take st.pr.length).drop first).any fun x => !(belowK (keys.getD i ByteArray.empty) x)), (rec_ st (kids.getD i 0)).bad⟩
def dn (rn : Int → S68 × Bool) : Nat → TSt → Int → Int → TSt
 | 0, st, _, _ => ⟨st.pg, st.pr, st.dp, st.order, true⟩
 | f + 1, st, page, deep =>
  if st.bad = true ∨ (rn page).2 = false ∨ deep > 8 ∨ st.pg.contains page = true then ⟨st.pg, st.pr, st.dp, st.order, true⟩
  else if (rn page).1.f0 = true then ⟨st.pg ++ [page], st.pr ++ pairsTo (rn page).1.f1 (rn page).1.f2 (rn page).1.f1.length, st.dp ++ [deep], st.order, st.bad⟩
  else dnKids (fun s k => dn rn f s k (deep + 1)) (rn page).1.f1 (rn page).1.f3 st.pr.length 0 (rn page).1.f3.length ⟨st.pg ++ [page], st.pr, st.dp, st.order, st.bad⟩
def nf : Nat → Nat
 | 0 => 0
 | f + 1 => 1 + 4 * nf f
def RnI (pages : List ByteArray) (late : List S189) (rn : Int → S68 × Bool) : Prop :=
 ∀ page : Int, ∃ s, (∃ k, impl_ReadPage.f k pages late page = some s) ∧ (∀ w, Calls Try.prog 30 #[.string s] w (NodePost w (rn page).1 (rn page).2)) ∧ (((rn page).2 = true ∧ nodeOkB (rn page).1.f0 (rn page).1.f1 (rn page).1.f2 (rn page).1.f3 = true) ∨ ((rn page).2 = false ∧ (rn page).1 = z68))
def cellsI (dP dL : Value) (vg vp vd : Value) (b1 b2 : Bool) : Array Value := #[dP, dL, vg, vp, vd, .bool b1, .bool b2]
theorem layI (dP dL : Value) : Lay (cellsI dP dL) 2 3 4 5 6 := ⟨fun _ _ _ _ _ _ => rfl, fun _ _ _ _ _ _ => rfl, fun _ _ _ _ _ _ => rfl, fun _ _ _ _ _ _ => rfl, fun _ _ _ _ _ _ => rfl⟩
def DownPost (C : Value → Value → Value → Bool → Bool → Array Value) (t : Nat) (w0 w : World) (g : Nat) (vg vp vd : Value) (st : TSt) (e : Ending) (w' : World) : Prop :=
 e = .returned (.tuple #[]) ∧ ∃ Ag cg Ap cp Ad cd, TInv C t w0 w' g (.slice Ag st.pg.length cg) (.slice Ap st.pr.length cp) (.slice Ad st.dp.length cd) st.order st.bad st.pg st.pr st.dp ∧
  TFr w w' g vg vp vd (.slice Ag st.pg.length cg) (.slice Ap st.pr.length cp) (.slice Ad st.dp.length cd)
theorem info3d : (Try.prog.info? 3).map (fun i => (i.zero, i.size, i.bytes)) = some (some (.int .i64 0), 1, 8) := by kernel_rfl
theorem info140d : (Try.prog.info? 140).map (fun i => (i.zero, i.size, i.bytes)) = some (some (.agg #[.string ⟨#[]⟩, .string ⟨#[]⟩]), 2, 32) := by kernel_rfl
theorem down_bad (AP : Option Addr) (cP : Nat) (pages : List ByteArray) (AL : Option Addr) (cL : Nat) (late : List S189) (w0 : World) (hP : Kd.C Kd.string w0 AP pages.length pages) (hcP : pages.length ≤ cP) (hL : Kd.C k189 w0 AL late.length late) (hcL : late.length ≤ cL) (rn : Int → S68 × Bool) (hrn : RnI pages late rn) (g : Nat) (st : TSt) (page deep : Int) (w : World) (Ag : Option Addr) (cg : Nat) (Ap : Option Addr) (cp : Nat) (Ad : Option Addr) (cd : Nat) (hT : TInv (cellsI (.slice AP pages.length cP) (.slice AL late.length cL)) 146 w0 w g (.slice Ag st.pg.length cg) (.slice Ap st.pr.length cp) (.slice Ad st.dp.length cd) st.order st.bad st.pg st.pr st.dp) (hbad : st.bad = true ∨ (rn page).2 = false ∨ deep > 8 ∨ st.pg.contains page = true) :
  Calls Try.prog 142 #[.pointer (some ⟨g, 0, none⟩), .int .i64 page, .int .i64 deep] w (DownPost (cellsI (.slice AP pages.length cP) (.slice AL late.length cL)) 146 w0 w g (.slice Ag st.pg.length cg) (.slice Ap st.pr.length cp) (.slice Ad st.dp.length cd) ⟨st.pg, st.pr, st.dp, st.order, true⟩) := by
 obtain ⟨s, ⟨k, hs⟩, hnode, hcase⟩ := hrn page
 have HS := Aside0.mk hs
 have HN := Aside0.mk hnode
 have HP := Aside0.mk hP
 have HL := Aside0.mk hL
 have HCASE := Aside0.mk hcase
 have HRN := Aside0.mk hrn
 have T0 := Aside0.mk hT
 obtain ⟨pg, pr, dp, order, bad⟩ := st
 obtain ⟨n, hn⟩ : ∃ n, (rn page).1 = n := ⟨_, rfl⟩
 obtain ⟨ok, hok⟩ : ∃ ok, (rn page).2 = ok := ⟨_, rfl⟩
 have HNN := Aside0.mk (And.intro hn hok)
 rw [hn, hok] at HN HCASE
 obtain ⟨leaf, keys, vals, kids⟩ := n
 simp only at T0
 clear hs hnode hP hL hcase hrn hT hn hok
 have hg := blk_lt T0.out.bT
 have ct0 : w.cell? ⟨g, 0, none⟩ = some (.slice AP pages.length cP) := (blk_cell T0.out.bT 0).trans rfl
 have ct1 : w.cell? ⟨g, 1, none⟩ = some (.slice AL late.length cL) := (blk_cell T0.out.bT 1).trans rfl
 rw [HNN.out.2] at hbad
 simp only at hbad
 go_enter Try.func142, Try.ntmps142
 go_wp2_with fail
 ((with_reducible refine (impl_ReadPage.calls k AP cP pages AL cL late page s _ (Kd.C_below HP.out T0.out.bel) hcP (Kd.C_below HL.out T0.out.bel) hcL HS.out).mono ?_); rintro e w1 ⟨rfl, hb1⟩)
 have T1 := Aside0.mk (T0.out.below hb1)
 obtain ⟨hc1, hf1⟩ := bcell hb1
 have HB1 := Aside0.mk hb1
 clear hb1
 go_wp2_with fail
 ((with_reducible refine (HN.out _).mono ?_); rintro e w2 ⟨A1, c1, A2, c2, A3, c3, rfl, r1, r2, r3, hb2⟩)
 have T3 := Aside0.mk ((T1.out.below hb2).alloc (.cells #[.bool leaf, .slice A1 keys.length c1, .slice A2 vals.length c2, .slice A3 kids.length c3] 68))
 have HB2 := Aside0.mk (show Below w.heap.size w w2 from below_step HB1.out hb2)
 have BN := Aside0.mk (blk_new w2 (.cells #[.bool leaf, .slice A1 keys.length c1, .slice A2 vals.length c2, .slice A3 kids.length c3] 68))
 have R1 := Aside0.mk (Kd.R_lower (base' := w0.heap.size) (Kd.R_below r1 (below_alloc (Below.refl _ _) (.cells #[.bool leaf, .slice A1 keys.length c1, .slice A2 vals.length c2, .slice A3 kids.length c3] 68))) T1.out.bel.size)
 have R2 := Aside0.mk (Kd.R_lower (base' := w0.heap.size) (Kd.R_below r2 (below_alloc (Below.refl _ _) (.cells #[.bool leaf, .slice A1 keys.length c1, .slice A2 vals.length c2, .slice A3 kids.length c3] 68))) T1.out.bel.size)
 have R3 := Aside0.mk (Kd.R_lower (base' := w0.heap.size) (Kd.R_below r3 (below_alloc (Below.refl _ _) (.cells #[.bool leaf, .slice A1 keys.length c1, .slice A2 vals.length c2, .slice A3 kids.length c3] 68))) T1.out.bel.size)
 have HF3 := Aside0.mk ((TFr.refl w g (.slice Ag pg.length cg) (.slice Ap pr.length cp) (.slice Ad dp.length cd)).below (below_alloc HB2.out (.cells #[.bool leaf, .slice A1 keys.length c1, .slice A2 vals.length c2, .slice A3 kids.length c3] 68)))
 have hne : NeRow (.slice A1 keys.length c1) (.slice Ag pg.length cg) ∧ NeRow (.slice A3 kids.length c3) (.slice Ag pg.length cg) ∧ NeRow (.slice A3 kids.length c3) (.slice Ad dp.length cd) := ⟨ne_fresh r1 T1.out.rg, ne_fresh r3 T1.out.rg, ne_fresh r3 T1.out.rd⟩
 have HNE := Aside0.mk hne
 have hsz := Aside0.mk (show w.heap.size ≤ w2.heap.size from HB2.out.size)
 clear r1 r2 r3 hb2 hc1 hf1 ct0 ct1 T1 hne
 go_upto_region 1 with (fail)
 have hgN := Aside0.mk (blk_lt BN.out)
 generalize hw3 : w2.alloc (.cells #[.bool leaf, .slice A1 keys.length c1, .slice A2 vals.length c2, .slice A3 kids.length c3] 68) = w3 at T3 BN R1 R2 R3 HF3 hgN ⊢
 clear hw3
 obtain ⟨gN, hgn⟩ : ∃ gN, w2.heap.size = gN := ⟨_, rfl⟩
 rw [hgn] at BN hsz hgN ⊢
 clear hgn
 have hgl := blk_lt T3.out.bT
 have hf2 := blk_frozen T3.out.bT
 have hd2 : w3.cell? ⟨g, 2, none⟩ = some (.slice Ag pg.length cg) := (blk_cell T3.out.bT 2).trans rfl
 have hd3 : w3.cell? ⟨g, 3, none⟩ = some (.slice Ap pr.length cp) := (blk_cell T3.out.bT 3).trans rfl
 have hd4 : w3.cell? ⟨g, 4, none⟩ = some (.slice Ad dp.length cd) := (blk_cell T3.out.bT 4).trans rfl
 have hd5 : w3.cell? ⟨g, 5, none⟩ = some (.bool order) := (blk_cell T3.out.bT 5).trans rfl
 have hd6 : w3.cell? ⟨g, 6, none⟩ = some (.bool bad) := (blk_cell T3.out.bT 6).trans rfl
 cases bad with
 | true =>
  clear hbad
  go_wp2
  refine bodyPost_ret (results_list (rs := []) (vs := []) rfl (by simp) Vals.nil) rfl ?_
  exact ⟨rfl, Ag, cg, Ap, cp, Ad, cd, set2 (layI _ _) (by decide) T3.out, HF3.out.set _ _⟩
 | false =>
  cases ok with
  | false =>
   clear hbad
   go_wp2
   refine bodyPost_ret (results_list (rs := []) (vs := []) rfl (by simp) Vals.nil) rfl ?_
   exact ⟨rfl, Ag, cg, Ap, cp, Ad, cd, set2 (layI _ _) (by decide) T3.out, HF3.out.set _ _⟩
  | true =>
   by_cases hd : deep > 8
   ·have hd1 : decide (8 < deep) = true := decide_eq_true hd
    clear hbad hd
    go_wp2
    refine bodyPost_ret (results_list (rs := []) (vs := []) rfl (by simp) Vals.nil) rfl ?_
    exact ⟨rfl, Ag, cg, Ap, cp, Ad, cd, set2 (layI _ _) (by decide) T3.out, HF3.out.set _ _⟩
   ·have hd1 : decide (8 < deep) = false := decide_eq_false (by omega)
    have hcon : pg.contains page = true := by
     rcases hbad with e | e | e | e
     ·cases e
     ·cases e
     ·exact absurd e hd
     ·exact e
    obtain ⟨kc, hkc⟩ := contains_ev pg page true hcon (R_seen T3.out.rg).2.2.1
    have HKC := Aside0.mk hkc
    clear hbad hd hcon hkc
    go_wp2_with fail
    ((with_reducible refine (slices_Contains_int_int.calls kc Ag cg pg page true _ (R_seen T3.out.rg).2 (R_seen T3.out.rg).1 HKC.out).mono ?_); rintro e w4 ⟨rfl, nd4, rfl⟩)
    go_wp2
    refine bodyPost_ret (results_list (rs := []) (vs := []) rfl (by simp) Vals.nil) rfl ?_
    exact ⟨rfl, Ag, cg, Ap, cp, Ad, cd, set2 (layI _ _) (by decide) (T3.out.below (Drawn0.below ⟨nd4, rfl⟩)), (HF3.out.below (Drawn0.below ⟨nd4, rfl⟩)).set _ _⟩
section
variable {C : Value → Value → Value → Bool → Bool → Array Value} {t : Nat} {w0 W W' : World} {g : Nat} {vg vp vd vg' vp' vd' : Value} {b1 b2 : Bool} {pg dp : List Int} {pr : List S140}
theorem blk_fr (hf : TFr W W' g vg vp vd vg' vp' vd') (hT : TInv C t w0 W g vg vp vd b1 b2 pg pr dp) {b tb : Nat} {cs : Array Value} (hb : W.heap[b]? = some (.cells cs tb (0, 0))) (htb : tb ≠ 3 ∧ tb ≠ 140 ∧ tb ≠ t) : W'.heap[b]? = some (.cells cs tb (0, 0)) :=
 (hf.keep b (blk_lt hb) (blk_ne hb hT.bT htb.2.2) (Kd.R_ne hT.rg hb htb.1.symm) (Kd.R_ne hT.rp hb htb.2.1.symm) (Kd.R_ne hT.rd hb htb.1.symm)).trans hb
theorem R9_fr (hf : TFr W W' g vg vp vd vg' vp' vd') (hT : TInv C t w0 W g vg vp vd b1 b2 pg pr dp) (ht : t ≠ 9) {base : Nat} {v : Value} {xs : List ByteArray} (h : Kd.R Kd.string 9 W base (fun _ => True) v xs) : Kd.R Kd.string 9 W' base (fun _ => True) v xs :=
 R_fr hf h hT.bT ht.symm (ne_types h hT.rg (by decide)) (ne_types h hT.rp (by decide)) (ne_types h hT.rd (by decide))
theorem R3_fr (hf : TFr W W' g vg vp vd vg' vp' vd') (hT : TInv C t w0 W g vg vp vd b1 b2 pg pr dp) (ht : t ≠ 3) {base : Nat} {v : Value} {xs : List Int} (h : Kd.R (Kd.int .i64) 3 W base (fun _ => True) v xs) (n1 : NeRow v vg) (n3 : NeRow v vd) : Kd.R (Kd.int .i64) 3 W' base (fun _ => True) v xs ∧ NeRow v vg' ∧ NeRow v vd' :=
 ⟨R_fr hf h hT.bT ht.symm n1 (ne_types h hT.rp (by decide)) n3, ne_at h n1 hf.ag, ne_at h n3 hf.ad⟩
end
theorem seen_str {W : World} {e base : Nat} {ok : Nat → Prop} {ad : Addr} {c : Nat} {xs : List ByteArray} (h : Kd.R Kd.string e W base ok (.slice (some ad) xs.length c) xs) {k : Nat} (hk : k < xs.length) : W.cell? (ad.add k) = some (.string xs[k]) := by
 obtain ⟨ad', e', hc⟩ := Kd.at_string (R_seen h).2 (k : Int) (by omega) (by omega)
 injection e' with e'
 subst e'
 rw [rdOf_nat _ _ _ hk, Int.toNat_natCast] at hc
 exact hc
theorem some_ad {α : Type} {d : Kd α} {e base : Nat} {W : World} {ok : Nat → Prop} {A : Option Addr} {c : Nat} {xs : List α} (h : Kd.R d e W base ok (.slice A xs.length c) xs) (hl : 0 < xs.length) : ∃ ad, A = some ad := by
 obtain ⟨ad, h1, _⟩ := (R_seen h).2.2.2 hl
 exact ⟨ad, h1⟩
theorem pairsTo_len (keys vals : List ByteArray) (n : Nat) : (pairsTo keys vals n).length = n := by simp [pairsTo]
theorem pairsTo_succ (keys vals : List ByteArray) (n : Nat) : pairsTo keys vals (n + 1) = pairsTo keys vals n ++ [⟨keys.getD n ByteArray.empty, vals.getD n ByteArray.empty⟩] := by simp [pairsTo, List.range_succ]
def impl_down.T9 : Bool × List (List Nat × List Nat) := (true, [([], []), ([], []), ([1], [1]), ([2], [2]), ([3], [3]), ([], []), ([], []), ([6], [6]), ([], []), ([7, 8], [7, 8]), ([9], [9]), ([5, 10], [5, 10]), ([11], [11]), ([4, 12], [4, 12]), ([0, 0, 1, 2, 3, 4, 5, 6, 7, 8, 9, 10, 11, 12, 13], [0]), ([14, 0, 1, 2, 3, 4, 5, 6, 7, 8, 9, 10, 11, 12, 13], [14]), ([15, 13, 13, 0, 1, 2, 3, 4, 5, 6, 7, 8, 9, 10, 11, 12, 13], [13, 15])])
def impl_down.B9 : List Nat := [0, 0, 2, 6, 14, 0, 0, 64, 0, 448, 960, 2016, 4064, 8190, 16383, 32767, 65535]
theorem impl_down.ok9_0 : regB (opsOf Try.f142 9) impl_down.T9 impl_down.B9 [16] [.p 0, .p 1, .p 2, .p 3, .t 4, .p 5, .p 6, .t 7, .p 8, .p 9, .t 10, .p 11, .e 12, .e 13, .p 14, .p 15, .l 16] = true := by kernel_rfl
theorem down_leaf (AP : Option Addr) (cP : Nat) (pages : List ByteArray) (AL : Option Addr) (cL : Nat) (late : List S189) (w0 : World) (hP : Kd.C Kd.string w0 AP pages.length pages) (hcP : pages.length ≤ cP) (hL : Kd.C k189 w0 AL late.length late) (hcL : late.length ≤ cL) (rn : Int → S68 × Bool) (hrn : RnI pages late rn) (g : Nat) (st : TSt) (page deep : Int) (w : World) (Ag : Option Addr) (cg : Nat) (Ap : Option Addr) (cp : Nat) (Ad : Option Addr) (cd : Nat) (hT : TInv (cellsI (.slice AP pages.length cP) (.slice AL late.length cL)) 146 w0 w g (.slice Ag st.pg.length cg) (.slice Ap st.pr.length cp) (.slice Ad st.dp.length cd) st.order st.bad st.pg st.pr st.dp) (hbad : st.bad = false) (hok : (rn page).2 = true) (hd : deep ≤ 8) (hcon : st.pg.contains page = false) (hleaf : (rn page).1.f0 = true) (hlg : st.pg.length ≤ 1000000) (hlp : st.pr.length ≤ 1000000) (hld : st.dp.length ≤ 1000000) :
  Calls Try.prog 142 #[.pointer (some ⟨g, 0, none⟩), .int .i64 page, .int .i64 deep] w (DownPost (cellsI (.slice AP pages.length cP) (.slice AL late.length cL)) 146 w0 w g (.slice Ag st.pg.length cg) (.slice Ap st.pr.length cp) (.slice Ad st.dp.length cd) ⟨st.pg ++ [page], st.pr ++ pairsTo (rn page).1.f1 (rn page).1.f2 (rn page).1.f1.length, st.dp ++ [deep], st.order, st.bad⟩) := by
 obtain ⟨s, ⟨k, hs⟩, hnode, hcase⟩ := hrn page
 have HS := Aside0.mk hs
 have HN := Aside0.mk hnode
 have HP := Aside0.mk hP
 have HL := Aside0.mk hL
 have HCASE := Aside0.mk hcase
 have HRN := Aside0.mk hrn
 have T0 := Aside0.mk hT
 obtain ⟨pg, pr, dp, order, bad⟩ := st
 obtain ⟨n, hn⟩ : ∃ n, (rn page).1 = n := ⟨_, rfl⟩
 obtain ⟨ok, hok⟩ : ∃ ok, (rn page).2 = ok := ⟨_, rfl⟩
 have HNN := Aside0.mk (And.intro hn hok)
 rw [hn, hok] at HN HCASE
 obtain ⟨leaf, keys, vals, kids⟩ := n
 simp only at T0
 clear hs hnode hP hL hcase hrn hT hn hok
 have hg := blk_lt T0.out.bT
 have ct0 : w.cell? ⟨g, 0, none⟩ = some (.slice AP pages.length cP) := (blk_cell T0.out.bT 0).trans rfl
 have ct1 : w.cell? ⟨g, 1, none⟩ = some (.slice AL late.length cL) := (blk_cell T0.out.bT 1).trans rfl
 rw [HNN.out.1] at hleaf ⊢
 simp only at hbad hcon hlg hlp hld hleaf ⊢
 subst hleaf
 subst hbad
 rw [HNN.out.2] at hok
 subst hok
 have hd1 : decide (8 < deep) = false := decide_eq_false (by omega)
 have hnk : nodeOkB true keys vals kids = true := by
  rcases HCASE.out with h | h
  ·exact h.2
  ·cases h.1
 obtain ⟨hshape, hcond⟩ := (nodeOk_iff _ _ _ _).1 hnk
 obtain ⟨kc, hkc⟩ := contains_ev pg page false hcon (R_seen T0.out.rg).2.2.1
 have HKC := Aside0.mk hkc
 have HLG := Aside0.mk hlg
 have HLP := Aside0.mk hlp
 have HLD := Aside0.mk hld
 obtain ⟨ks1, hks⟩ : ∃ z, z = pg ++ [page] := ⟨_, rfl⟩
 have HKS1 := Aside0.mk hks
 clear hd hcon hkc hnk hlg hlp hld hks hcond
 obtain ⟨ks2, hks⟩ : ∃ z, z = dp ++ [deep] := ⟨_, rfl⟩
 have HKS2 := Aside0.mk hks
 have HVL := Aside0.mk (hshape.2.1 rfl).1
 have hkl := hshape.1.2
 clear hks hshape
 go_enter Try.func142, Try.ntmps142
 go_wp2_with fail
 ((with_reducible refine (impl_ReadPage.calls k AP cP pages AL cL late page s _ (Kd.C_below HP.out T0.out.bel) hcP (Kd.C_below HL.out T0.out.bel) hcL HS.out).mono ?_); rintro e w1 ⟨rfl, hb1⟩)
 have T1 := Aside0.mk (T0.out.below hb1)
 obtain ⟨hc1, hf1⟩ := bcell hb1
 have HB1 := Aside0.mk hb1
 clear hb1
 go_wp2_with fail
 ((with_reducible refine (HN.out _).mono ?_); rintro e w2 ⟨A1, c1, A2, c2, A3, c3, rfl, r1, r2, r3, hb2⟩)
 have T3 := Aside0.mk ((T1.out.below hb2).alloc (.cells #[.bool true, .slice A1 keys.length c1, .slice A2 vals.length c2, .slice A3 kids.length c3] 68))
 have HB2 := Aside0.mk (show Below w.heap.size w w2 from below_step HB1.out hb2)
 have BN := Aside0.mk (blk_new w2 (.cells #[.bool true, .slice A1 keys.length c1, .slice A2 vals.length c2, .slice A3 kids.length c3] 68))
 have R1 := Aside0.mk (Kd.R_lower (base' := w0.heap.size) (Kd.R_below r1 (below_alloc (Below.refl _ _) (.cells #[.bool true, .slice A1 keys.length c1, .slice A2 vals.length c2, .slice A3 kids.length c3] 68))) T1.out.bel.size)
 have R2 := Aside0.mk (Kd.R_lower (base' := w0.heap.size) (Kd.R_below r2 (below_alloc (Below.refl _ _) (.cells #[.bool true, .slice A1 keys.length c1, .slice A2 vals.length c2, .slice A3 kids.length c3] 68))) T1.out.bel.size)
 have R3 := Aside0.mk (Kd.R_lower (base' := w0.heap.size) (Kd.R_below r3 (below_alloc (Below.refl _ _) (.cells #[.bool true, .slice A1 keys.length c1, .slice A2 vals.length c2, .slice A3 kids.length c3] 68))) T1.out.bel.size)
 have HF3 := Aside0.mk ((TFr.refl w g (.slice Ag pg.length cg) (.slice Ap pr.length cp) (.slice Ad dp.length cd)).below (below_alloc HB2.out (.cells #[.bool true, .slice A1 keys.length c1, .slice A2 vals.length c2, .slice A3 kids.length c3] 68)))
 have hne : NeRow (.slice A1 keys.length c1) (.slice Ag pg.length cg) ∧ NeRow (.slice A3 kids.length c3) (.slice Ag pg.length cg) ∧ NeRow (.slice A3 kids.length c3) (.slice Ad dp.length cd) := ⟨ne_fresh r1 T1.out.rg, ne_fresh r3 T1.out.rg, ne_fresh r3 T1.out.rd⟩
 have HNE := Aside0.mk hne
 have hsz := Aside0.mk (show w.heap.size ≤ w2.heap.size from HB2.out.size)
 clear r1 r2 r3 hb2 hc1 hf1 ct0 ct1 T1 hne
 go_upto_region 1 with (fail)
 have hgN := Aside0.mk (blk_lt BN.out)
 generalize hw3 : w2.alloc (.cells #[.bool true, .slice A1 keys.length c1, .slice A2 vals.length c2, .slice A3 kids.length c3] 68) = w3 at T3 BN R1 R2 R3 HF3 hgN ⊢
 clear hw3
 obtain ⟨gN, hgn⟩ : ∃ gN, w2.heap.size = gN := ⟨_, rfl⟩
 rw [hgn] at BN hsz hgN ⊢
 clear hgn
 have hgl := blk_lt T3.out.bT
 have hf2 := blk_frozen T3.out.bT
 have hd2 : w3.cell? ⟨g, 2, none⟩ = some (.slice Ag pg.length cg) := (blk_cell T3.out.bT 2).trans rfl
 have hd3 : w3.cell? ⟨g, 3, none⟩ = some (.slice Ap pr.length cp) := (blk_cell T3.out.bT 3).trans rfl
 have hd4 : w3.cell? ⟨g, 4, none⟩ = some (.slice Ad dp.length cd) := (blk_cell T3.out.bT 4).trans rfl
 have hd5 : w3.cell? ⟨g, 5, none⟩ = some (.bool order) := (blk_cell T3.out.bT 5).trans rfl
 have hd6 : w3.cell? ⟨g, 6, none⟩ = some (.bool false) := (blk_cell T3.out.bT 6).trans rfl
 go_wp2_with fail
 ((with_reducible refine (slices_Contains_int_int.calls kc Ag cg pg page false _ (R_seen T3.out.rg).2 (R_seen T3.out.rg).1 HKC.out).mono ?_); rintro e w4 ⟨rfl, nd4, rfl⟩)
 have T4 := Aside0.mk (T3.out.below (Drawn0.below ⟨nd4, rfl⟩))
 have BN4 := Aside0.mk (blk_below BN.out (Drawn0.below ⟨nd4, rfl⟩))
 have R14 := Aside0.mk (Kd.R_below R1.out (Drawn0.below ⟨nd4, rfl⟩))
 have R24 := Aside0.mk (Kd.R_below R2.out (Drawn0.below ⟨nd4, rfl⟩))
 have R34 := Aside0.mk (Kd.R_below R3.out (Drawn0.below ⟨nd4, rfl⟩))
 have HF4 := Aside0.mk (HF3.out.below (Drawn0.below ⟨nd4, rfl⟩))
 clear T3 BN R1 R2 R3 HF3
 generalize w3.drewN nd4 = w4 at T4 BN4 R14 R24 R34 HF4 ⊢
 have hgl4 := blk_lt T4.out.bT
 have hd24 : w4.cell? ⟨g, 2, none⟩ = some (.slice Ag pg.length cg) := (blk_cell T4.out.bT 2).trans rfl
 clear hf2 hd2 hd3 hd4 hd5 hd6 hgl
 go_upto_region 4 with (((with_reducible refine gate_builtin (b := .append) (xs := #[.tmp 51, .tmp 53]) rfl ?_); at_builtin; refine Kd.R_append (Kd.int .i64) (w0 := w0) w0.heap.size rfl (.tmp 51) (.tmp 53) 30 3 (.int .i64 0) 8 rfl Try.underlying30 info3d rfl (by decide) (by omega) (.slice Ag pg.length cg) pg page [.int .i64 page] (fun _ => True) (fun _ => False) rfl rfl ?aP (fun _ hk => hk.elim) ?aF ?aO ?aB ?aS ?aL ?_; (case aP => exact rfl); (case aF => exact (fun _ _ => trivial)); (case aO => exact T4.out.rg); (case aB => exact T4.out.bel); (case aS => exact T4.out.bel.size); (case aL => have := HLG.out; omega); intro va wa ho hb hgr hat; rw [← HKS1.out] at ho; obtain ⟨Ao1, co1, eo⟩ := Kd.R_slice ho; subst eo; have ba := Aside0.mk (blk_grown T4.out.bT hgr (Kd.R_ne T4.out.rg T4.out.bT (by decide))); have hsa : wa.cell? ⟨g, 2, none⟩ = some (.slice Ag pg.length cg) := (blk_cell ba.out 2).trans rfl; have hfa := blk_frozen ba.out; have hla := blk_lt ba.out; have TT := Aside0.mk (T4.out.pushPg (layI _ _) (by decide) ho hb hgr hat); clear ho hb hgr hat))
 clear hsa hfa hla ba hd24 hgl4
 generalize hwx : wa.setCell ⟨g, 2, none⟩ _ = w5 at TT ⊢
 clear hwx
 obtain ⟨TT1, TT2⟩ := TT.out
 have T5 := Aside0.mk TT1
 have HF5 := Aside0.mk (HF4.out.trans TT2)
 have BN5 := Aside0.mk (blk_fr TT2 T4.out BN4.out (by decide))
 have R15 := Aside0.mk (R9_fr TT2 T4.out (by decide) R14.out)
 have R25 := Aside0.mk (R9_fr TT2 T4.out (by decide) R24.out)
 have R35 := Aside0.mk (R3_fr TT2 T4.out (by decide) R34.out HNE.out.2.1 HNE.out.2.2)
 clear TT TT1 TT2 T4 BN4 R14 R24 R34 HF4
 have hgl5 := blk_lt T5.out.bT
 have hd45 : w5.cell? ⟨g, 4, none⟩ = some (.slice Ad dp.length cd) := (blk_cell T5.out.bT 4).trans rfl
 have hn05 : w5.cell? ⟨gN, 0, none⟩ = some (.bool true) := (blk_cell BN5.out 0).trans rfl
 go_upto_region 6 with (((with_reducible refine gate_builtin (b := .append) (xs := #[.tmp 63, .tmp 65]) rfl ?_); at_builtin; refine Kd.R_append (Kd.int .i64) (w0 := w0) w0.heap.size rfl (.tmp 63) (.tmp 65) 30 3 (.int .i64 0) 8 rfl Try.underlying30 info3d rfl (by decide) (by omega) (.slice Ad dp.length cd) dp deep [.int .i64 deep] (fun _ => True) (fun _ => False) rfl rfl ?aP (fun _ hk => hk.elim) ?aF ?aO ?aB ?aS ?aL ?_; (case aP => exact rfl); (case aF => exact (fun _ _ => trivial)); (case aO => exact T5.out.rd); (case aB => exact T5.out.bel); (case aS => exact T5.out.bel.size); (case aL => have := HLD.out; omega); intro va wa ho hb hgr hat; rw [← HKS2.out] at ho; obtain ⟨Ao2, co2, eo⟩ := Kd.R_slice ho; subst eo; have ba := Aside0.mk (blk_grown T5.out.bT hgr (Kd.R_ne T5.out.rd T5.out.bT (by decide))); have hsa : wa.cell? ⟨g, 4, none⟩ = some (.slice Ad dp.length cd) := (blk_cell ba.out 4).trans rfl; have hfa := blk_frozen ba.out; have hla := blk_lt ba.out; have TT := Aside0.mk (T5.out.pushDp (layI _ _) (by decide) ho hb hgr hat); clear ho hb hgr hat))
 clear hsa hfa hla ba hd45 hgl5 hn05
 generalize hwx : wa.setCell ⟨g, 4, none⟩ _ = w6 at TT ⊢
 clear hwx
 obtain ⟨TT1, TT2⟩ := TT.out
 have T6 := Aside0.mk TT1
 have HF6 := Aside0.mk (HF5.out.trans TT2)
 have BN6 := Aside0.mk (blk_fr TT2 T5.out BN5.out (by decide))
 have R16 := Aside0.mk (R9_fr TT2 T5.out (by decide) R15.out)
 have R26 := Aside0.mk (R9_fr TT2 T5.out (by decide) R25.out)
 clear TT TT1 TT2 T5 BN5 R15 R25 R35 HF5
 have hn16 : w6.cell? ⟨gN, 1, none⟩ = some (.slice A1 keys.length c1) := (blk_cell BN6.out 1).trans rfl
 go_wp2_with fail
 go_loopg [72] keys.length (fun gg s72 wr => ∃ (kk : Nat) (Apk : Option Addr) (cpk : Nat), kk ≤ keys.length ∧ keys.length - kk ≤ gg ∧ s72 = .int .i64 kk ∧ Aside0 (TInv (cellsI (.slice AP pages.length cP) (.slice AL late.length cL)) 146 w0 wr g (.slice Ao1 ks1.length co1) (.slice Apk (pr ++ pairsTo keys vals kk).length cpk) (.slice Ao2 ks2.length co2) order false ks1 (pr ++ pairsTo keys vals kk) ks2) ∧ Aside0 (wr.heap[gN]? = some (.cells #[.bool true, .slice A1 keys.length c1, .slice A2 vals.length c2, .slice A3 kids.length c3] 68 (0, 0))) ∧
   Aside0 (Kd.R Kd.string 9 wr w0.heap.size (fun _ => True) (.slice A1 keys.length c1) keys) ∧ Aside0 (Kd.R Kd.string 9 wr w0.heap.size (fun _ => True) (.slice A2 vals.length c2) vals) ∧ Aside0 (TFr w wr g (.slice Ag pg.length cg) (.slice Ap pr.length cp) (.slice Ad dp.length cd) (.slice Ao1 ks1.length co1) (.slice Apk (pr ++ pairsTo keys vals kk).length cpk) (.slice Ao2 ks2.length co2)))
 case atStart =>
  have e0 : pr ++ pairsTo keys vals 0 = pr := by simp [pairsTo]
  exact ⟨0, Ap, cp, Nat.zero_le _, by omega, rfl, by rw [e0]; exact T6, BN6, R16, R26, by rw [e0]; exact HF6⟩
 case round =>
  clear T6 BN6 R16 R26 HF6 hn16
  obtain ⟨kk, Apk, cpk, hkk, hgg, rfl, TK, BNK, R1K, R2K, HFK⟩ := hrel
  by_cases hlt : kk < keys.length
  ·have hltz : (kk : Int) < (keys.length : Int) := by omega
   have hlv : kk < vals.length := by have := HVL.out; omega
   have hlvz : (kk : Int) < (vals.length : Int) := by omega
   obtain ⟨ad1, rfl⟩ := some_ad R1K.out (by omega)
   obtain ⟨ad2, rfl⟩ := some_ad R2K.out (by omega)
   have hk1 := seen_str R1K.out hlt
   obtain ⟨key, hkey⟩ : ∃ key, keys[kk] = key := ⟨_, rfl⟩
   obtain ⟨val, hval⟩ : ∃ val, vals[kk] = val := ⟨_, rfl⟩
   rw [hkey] at hk1
   have HPAIR := Aside0.mk (show (⟨keys.getD kk ByteArray.empty, vals.getD kk ByteArray.empty⟩ : S140) = ⟨key, val⟩ by
    rw [List.getD_eq_getElem?_getD, List.getD_eq_getElem?_getD, List.getElem?_eq_getElem hlt, List.getElem?_eq_getElem hlv, Option.getD_some, Option.getD_some, hkey, hval])
   have HVAL := Aside0.mk hval
   obtain ⟨prk, hprk⟩ : ∃ z, z = pr ++ pairsTo keys vals kk := ⟨_, rfl⟩
   have HPRK := Aside0.mk hprk
   rw [← hprk] at TK HFK
   have HLQ := Aside0.mk (show prk.length ≤ 1000010 by rw [hprk, List.length_append, pairsTo_len]; have := HLP.out; omega)
   obtain ⟨prn, hprn⟩ : ∃ z, z = prk ++ [(⟨key, val⟩ : S140)] := ⟨_, rfl⟩
   have HKS3 := Aside0.mk hprn
   clear hkey hval hprk hprn
   go_wp2_with fail
   clear hk1
   have TKd := Aside0.mk TK.out.drew
   have BNd := Aside0.mk (blk_below BNK.out (Below.refl _ _).drew)
   have R1d := Aside0.mk (Kd.R_below R1K.out (Below.refl _ _).drew)
   have R2d := Aside0.mk (Kd.R_below R2K.out (Below.refl _ _).drew)
   have HFd := Aside0.mk (HFK.out.below (Below.refl _ _).drew)
   clear TK BNK R1K R2K HFK
   refine seq_start impl_down.ok9_0 (S := fun w' => w'.cell? ⟨g, 3, none⟩ = some (.slice Apk prk.length cpk) ∧ w'.cell? ⟨gN, 2, none⟩ = some (.slice (some ad2) vals.length c2) ∧ w'.cell? (ad2.add kk) = some (.string val)) (by kernel_rfl) (fun _ _ _ _ h => h) ⟨(blk_cell TKd.out.bT 3).trans rfl, (blk_cell BNd.out 2).trans rfl, (seen_str R2d.out hlv).trans (by rw [HVAL.out])⟩ (fun hHeld => ?_)
   generalize wr.drew = wd at TKd BNd R1d R2d HFd hHeld ⊢
   iterate 4 (refine seq_p (v := ?_) (a' := ?_) rfl rfl (Or.inl ⟨by rfl, ?_⟩) ?_ ?_; rotate_left; (· intro w'; go_simp; with_reducible rfl); rotate_left; (· show Act.put _ (some _) _ = _; simp only [Act.put, List.setIfInBounds_toArray, List.set_cons_zero, List.set_cons_succ, i64_w, i32_w]; try rfl))
   (refine seq_t (v := ?_) (a' := ?_) rfl rfl (Or.inl ⟨by rfl, ?_⟩) ?_ ?_; rotate_left; (· rintro w' ⟨s0, s1, s2⟩; go_simp; with_reducible rfl); rotate_left; (· show Act.put _ (some _) _ = _; simp only [Act.put, List.setIfInBounds_toArray, List.set_cons_zero, List.set_cons_succ, i64_w, i32_w]; try rfl))
   iterate 2 (refine seq_p (v := ?_) (a' := ?_) rfl rfl (Or.inl ⟨by rfl, ?_⟩) ?_ ?_; rotate_left; (· intro w'; go_simp; with_reducible rfl); rotate_left; (· show Act.put _ (some _) _ = _; simp only [Act.put, List.setIfInBounds_toArray, List.set_cons_zero, List.set_cons_succ, i64_w, i32_w]; try rfl))
   (refine seq_t (v := ?_) (a' := ?_) rfl rfl (Or.inl ⟨by rfl, ?_⟩) ?_ ?_; rotate_left; (· rintro w' ⟨s0, s1, s2⟩; go_simp; with_reducible rfl); rotate_left; (· show Act.put _ (some _) _ = _; simp only [Act.put, List.setIfInBounds_toArray, List.set_cons_zero, List.set_cons_succ, i64_w, i32_w]; try rfl))
   iterate 2 (refine seq_p (v := ?_) (a' := ?_) rfl rfl (Or.inl ⟨by rfl, ?_⟩) ?_ ?_; rotate_left; (· intro w'; go_simp; with_reducible rfl); rotate_left; (· show Act.put _ (some _) _ = _; simp only [Act.put, List.setIfInBounds_toArray, List.set_cons_zero, List.set_cons_succ, i64_w, i32_w]; try rfl))
   (refine seq_t (v := ?_) (a' := ?_) rfl rfl (Or.inl ⟨by rfl, ?_⟩) ?_ ?_; rotate_left; (· rintro w' ⟨s0, s1, s2⟩; go_simp; with_reducible rfl); rotate_left; (· show Act.put _ (some _) _ = _; simp only [Act.put, List.setIfInBounds_toArray, List.set_cons_zero, List.set_cons_succ, i64_w, i32_w]; try rfl))
   (refine seq_p (v := ?_) (a' := ?_) rfl rfl (Or.inl ⟨by rfl, ?_⟩) ?_ ?_; rotate_left; (· intro w'; go_simp; with_reducible rfl); rotate_left; (· show Act.put _ (some _) _ = _; simp only [Act.put, List.setIfInBounds_toArray, List.set_cons_zero, List.set_cons_succ, i64_w, i32_w]; try rfl))
   refine seq_e rfl rfl (fun K hK => ?_)
   refine value_ (w1 := ?_) (v := ?_) (by rfl) rfl ?_ ?_
   rotate_left 2
   ·go_simp
    constructor
    ·rfl
    ·rfl
   refine hK.out _ _ ⟨(blk_cell (TKd.out.below (below_alloc (Below.refl _ _) _)).bT 3).trans rfl, (blk_cell (blk_alloc BNd.out _) 2).trans rfl, (seen_str (Kd.R_below R2d.out (below_alloc (Below.refl _ _) _)) hlv).trans (by rw [HVAL.out])⟩ (fun hHeld => ?_)
   clear hK K
   refine seq_norm (a' := ?_) ?_ ?_; rotate_left; (· show Act.put _ (some 89) _ = _; simp only [Act.put, List.setIfInBounds_toArray, List.set_cons_zero, List.set_cons_succ, i64_w, i32_w]; try rfl)
   refine seq_e rfl rfl (fun K hK => ?_)
   refine Kd.R_append_step k140 (w0 := w0) w0.heap.size (by rfl) (.tmp 81) (.tmp 89) 80 140 (.agg #[.string ⟨#[]⟩, .string ⟨#[]⟩]) 32 rfl Try.underlying80 info140d rfl (by decide) (by omega) (.slice Apk prk.length cpk) prk (⟨key, val⟩ : S140) [.string key, .string val] (fun _ => True) (fun _ => False) rfl rfl ?aP (fun _ hk => hk.elim) ?aF ?aO ?aB ?aS ?aL ?_
   (case aP => exact k140_mkM _ _ _ _)
   (case aF => exact (fun _ _ => trivial))
   (case aO => exact TKd.out.rp)
   (case aB => exact TKd.out.bel)
   (case aS => exact TKd.out.bel.size)
   (case aL => have := HLQ.out; omega)
   intro va wa ho hb hgr hat
   have ba := Aside0.mk (blk_grown TKd.out.bT hgr (Kd.R_ne TKd.out.rp TKd.out.bT (by decide)))
   have bna := Aside0.mk (blk_grown BNd.out hgr (Kd.R_ne TKd.out.rp BNd.out (by decide)))
   have r2a := Aside0.mk (Kd.R_over' R2d.out (Kd.R_typed TKd.out.rp) (by decide) hgr)
   rw [← HKS3.out] at ho
   obtain ⟨Ao3, co3, eo⟩ := Kd.R_slice ho
   subst eo
   have TT := Aside0.mk (TKd.out.pushPr (layI _ _) (by decide) ho hb hgr hat)
   clear ho hb hgr hat
   refine hK.out _ _ ⟨(blk_cell ba.out 3).trans rfl, (blk_cell bna.out 2).trans rfl, (seen_str r2a.out hlv).trans (by rw [HVAL.out])⟩ (fun hHeld => ?_)
   clear hK K
   refine seq_norm (a' := ?_) ?_ ?_; rotate_left; (· show Act.put _ (some 90) _ = _; simp only [Act.put, List.setIfInBounds_toArray, List.set_cons_zero, List.set_cons_succ, i64_w, i32_w]; try rfl)
   iterate 2 (refine seq_p (v := ?_) (a' := ?_) rfl rfl (Or.inl ⟨by rfl, ?_⟩) ?_ ?_; rotate_left; (· intro w'; go_simp; with_reducible rfl); rotate_left; (· show Act.put _ (some _) _ = _; simp only [Act.put, List.setIfInBounds_toArray, List.set_cons_zero, List.set_cons_succ, i64_w, i32_w]; try rfl))
   refine seq_l rfl rfl (fun K hK => ?_)
   have hs1 : wa.cell? ⟨g, 3, none⟩ = some (.slice Apk prk.length cpk) := (blk_cell ba.out 3).trans rfl
   have hf1 := blk_frozen ba.out 3
   refine skip_ (w1 := ?_) (by rfl) rfl ?_ ?_
   rotate_left
   ·go_simp
    rfl
   refine hK.out _ _ ?_
   clear hK K
   refine seq_done ?_
   clear ba bna r2a hs1 hf1 hHeld
   generalize hwx : wa.setCell ⟨g, 3, none⟩ _ = w7 at TT ⊢
   clear hwx
   obtain ⟨TT1, TT2⟩ := TT.out
   have T7 := Aside0.mk TT1
   have HF7 := Aside0.mk (HFd.out.trans TT2)
   have BN7 := Aside0.mk (blk_fr TT2 TKd.out BNd.out (by decide))
   have R17 := Aside0.mk (R9_fr TT2 TKd.out (by decide) R1d.out)
   have R27 := Aside0.mk (R9_fr TT2 TKd.out (by decide) R2d.out)
   clear TT TT1 TT2 TKd BNd R1d R2d HFd
   go_wp2
   have hw : wrap64 ((kk : Int) + 1) = ((kk + 1 : Nat) : Int) := by unfold wrap64; omega
   have hpn : prn = pr ++ pairsTo keys vals (kk + 1) := by rw [pairsTo_succ, ← List.append_assoc, ← HPRK.out, HPAIR.out]; exact HKS3.out
   have HW := Aside0.mk hw
   have HPN := Aside0.mk hpn
   clear hw hpn
   go_roundg (keys.length - (kk + 1))
   case measure => omega
   case rel => exact ⟨kk + 1, Ao3, co3, by omega, by omega, by first | rfl | exact congrArg (Value.int .i64) HW.out, by rw [← HPN.out]; exact T7, BN7, R17, R27, by rw [← HPN.out]; exact HF7⟩
  ·have hltz : ¬ (kk : Int) < (keys.length : Int) := by omega
   have : kk = keys.length := by omega
   subst this
   go_wp2
   refine bodyPost_ret (results_list (rs := []) (vs := []) rfl (by simp) Vals.nil) rfl ?_
   rw [← HKS1.out, ← HKS2.out]
   exact ⟨rfl, _, _, _, _, _, _, TK.out, HFK.out⟩
def impl_down.T18 : Bool × List (List Nat × List Nat) := (true, [([], []), ([], []), ([1], [1]), ([2], [2]), ([3], [3]), ([4], [4]), ([5], [5]), ([6, 5], [5, 6]), ([7, 5], [5, 7]), ([8, 5], [5, 8]), ([5], [5]), ([9, 10, 5], [5, 9, 10]), ([5], [5]), ([12, 5], [5, 12]), ([5], [5]), ([13, 14, 5], [5, 13, 14]), ([15, 5], [5, 15]), ([11, 16, 5, 5], [5, 11, 16]), ([17, 5], [5, 17]), ([5, 18], [5, 18]), ([19, 17], [19]), ([20], [20]), ([21, 20], [20, 21]), ([22, 20], [20, 22]), ([23, 20], [20, 23]), ([20], [20]), ([20], [20]), ([24, 25, 26, 20], [20, 24, 25, 26]), ([20], [20]), ([28, 20], [20, 28]), ([20], [20]), ([29, 30, 20], [20, 29, 30]), ([31, 20], [20, 31]), ([27, 32, 20, 20], [20, 27, 32]), ([33, 20], [20, 33]), ([20, 34], [20, 34]), ([0, 0, 1, 2, 3, 4, 5, 6, 7, 8, 9, 10, 11, 12, 13, 14, 15, 16, 17, 18, 19, 20, 21, 22, 23, 24, 25, 26, 27, 28, 29, 30, 31, 32, 33, 34, 35], [0]), ([36, 0, 1, 2, 3, 4, 5, 6, 7, 8, 9, 10, 11, 12, 13, 14, 15, 16, 17, 18, 19, 20, 21, 22, 23, 24, 25, 26, 27, 28, 29, 30, 31, 32, 33, 34, 35], [36]), ([37, 35, 33, 0, 1, 2, 3, 4, 5, 6, 7, 8, 9, 10, 11, 12, 13, 14, 15, 16, 17, 18, 19, 20, 21, 22, 23, 24, 25, 26, 27, 28, 29, 30, 31, 32, 33, 34, 35], [35, 37])])
def impl_down.B18 : List Nat := [0, 0, 2, 6, 14, 30, 62, 126, 254, 510, 62, 2046, 62, 4158, 62, 28734, 61502, 131070, 262142, 524286, 1048574, 2097150, 4194302, 8388606, 16777214, 2097150, 2097150, 134217726, 2097150, 270532606, 2097150, 1881145342, 4028628990, 8589934590, 17179869182, 34359738366, 68719476735, 137438953471, 274877906943]
theorem impl_down.ok18_1 : regB (opsOf Try.f142 18) impl_down.T18 impl_down.B18 [38] [.p 0, .p 1, .p 2, .p 3, .t 4, .p 5, .p 6, .p 7, .p 8, .p 9, .p 10, .p 11, .p 12, .p 13, .p 14, .p 15, .p 16, .p 17, .p 18, .p 19, .p 20, .p 21, .p 22, .p 23, .p 24, .p 25, .p 26, .p 27, .p 28, .p 29, .p 30, .p 31, .p 32, .p 33, .p 34, .p 35, .p 36, .p 37, .l 38] = true := by kernel_rfl
theorem impl_down.ok18_2 : regB (opsOf Try.f142 18) impl_down.T18 impl_down.B18 [38] [.p 0, .p 1, .p 2, .p 3, .t 4, .p 5, .p 6, .p 7, .p 8, .t 9, .p 10, .p 11, .p 12, .t 13, .p 14, .p 15, .t 16, .e 17, .p 18, .p 19, .p 20, .p 21, .p 22, .p 23, .p 24, .p 25, .p 26, .p 27, .p 28, .p 29, .p 30, .p 31, .p 32, .p 33, .p 34, .p 35, .p 36, .p 37, .l 38] = true := by kernel_rfl
theorem impl_down.ok18_3 : regB (opsOf Try.f142 18) impl_down.T18 impl_down.B18 [38] [.p 0, .p 1, .p 2, .p 3, .t 4, .p 5, .p 6, .p 7, .p 8, .t 9, .p 10, .p 11, .p 12, .t 13, .p 14, .p 15, .t 16, .e 17, .p 18, .p 19, .p 20, .p 21, .p 22, .p 23, .t 24, .p 25, .p 26, .p 27, .p 28, .t 29, .p 30, .p 31, .t 32, .e 33, .p 34, .p 35, .p 36, .p 37, .l 38] = true := by kernel_rfl
theorem keyBelow_cut (A : Option Addr) (c m : Nat) (xs : List S140) (hm : m ≤ xs.length) (hc : xs.length ≤ c) : ∃ A', (∀ W : World, (Instr.slice 80 (.slice A xs.length c) (some (.int .i64 (m : Int))) none none).run Try.prog W = .ok (.slice A' (xs.length - m) (c - m)) W) ∧
  ∀ (W : World) (key : ByteArray) (r : Bool), Kd.C k140 W A xs.length xs → (xs.drop m).any (belowK key) = r → Calls Try.prog 161 #[.slice A' (xs.length - m) (c - m), .string key] W fun e w' => e = .returned (.bool r) ∧ Below W.heap.size W w' := by
 obtain ⟨i0, hi0, hz⟩ := Option.map_eq_some_iff.1 info140d
 simp only [Prod.mk.injEq] at hz
 refine ⟨if c = m then A else A.map (·.add (m * 2)), ?_, ?_⟩
 ·intro W
  have h := cut_from (P := Try.prog) 80 140 .i64 Try.underlying80 hi0 2 hz.2.1 A xs.length c (m : Int) (by omega) (by omega) W
  simp only [Int.toNat_natCast] at h
  exact h
 ·intro W key r hC hr
  have h := keyBelow_calls (if c = m then A else A.map (·.add (m * 2))) (c - m) (xs.drop m) key r W (Kd.C_drop hC hm hc) hr
  rw [List.length_drop] at h
  exact h
theorem keyFrom_cut (A : Option Addr) (c lo hi : Nat) (xs : List S140) (h1 : lo ≤ hi) (h2 : hi ≤ xs.length) (hc : xs.length ≤ c) : ∃ A', (∀ W : World, (Instr.slice 80 (.slice A xs.length c) (some (.int .i64 (lo : Int))) (some (.int .i64 (hi : Int))) none).run Try.prog W = .ok (.slice A' (hi - lo) (c - lo)) W) ∧
  ∀ (W : World) (key : ByteArray) (r : Bool), Kd.C k140 W A xs.length xs → (((xs.take hi).drop lo).any fun x => !(belowK key x)) = r → Calls Try.prog 162 #[.slice A' (hi - lo) (c - lo), .string key] W fun e w' => e = .returned (.bool r) ∧ Below W.heap.size W w' := by
 obtain ⟨i0, hi0, hz⟩ := Option.map_eq_some_iff.1 info140d
 simp only [Prod.mk.injEq] at hz
 refine ⟨if c = lo then A else A.map (·.add (lo * 2)), ?_, ?_⟩
 ·intro W
  have h := cut_mid (P := Try.prog) 80 140 .i64 .i64 Try.underlying80 hi0 2 hz.2.1 A xs.length c (lo : Int) (hi : Int) (by omega) (by omega) (by omega) hc W
  simp only [Int.toNat_natCast] at h
  exact h
 ·intro W key r hC hr
  have h := keyFrom_calls (if c = lo then A else A.map (·.add (lo * 2))) (c - lo) ((xs.take hi).drop lo) key r W (Kd.C_mid hC h1 h2 hc) hr
  rw [List.length_drop, List.length_take, Nat.min_eq_left h2] at h
  exact h
theorem seen_int {W : World} {e base : Nat} {ok : Nat → Prop} {ad : Addr} {c : Nat} {xs : List Int} (h : Kd.R (Kd.int .i64) e W base ok (.slice (some ad) xs.length c) xs) {k : Nat} (hk : k < xs.length) : W.cell? (ad.add k) = some (.int .i64 xs[k]) := by
 obtain ⟨ad', e', hc⟩ := Kd.at_int (R_seen h).2 (k : Int) (by omega) (by omega)
 injection e' with e'
 subst e'
 rw [rd_nat _ _ hk, Int.toNat_natCast] at hc
 exact hc
theorem calls_arg {P : Program} {f : Nat} {a b : Value} {d d' : Int} {w : World} {post : Ending → World → Prop} (h : Calls P f #[a, b, .int .i64 d] w post) (e : d' = d) : Calls P f #[a, b, .int .i64 d'] w post := by subst e; exact h
theorem down_branch (AP : Option Addr) (cP : Nat) (pages : List ByteArray) (AL : Option Addr) (cL : Nat) (late : List S189) (w0 : World) (hP : Kd.C Kd.string w0 AP pages.length pages) (hcP : pages.length ≤ cP) (hL : Kd.C k189 w0 AL late.length late) (hcL : late.length ≤ cL) (rn : Int → S68 × Bool) (hrn : RnI pages late rn) (g : Nat) (st : TSt) (page deep : Int) (w : World) (Ag : Option Addr) (cg : Nat) (Ap : Option Addr) (cp : Nat) (Ad : Option Addr) (cd : Nat) (hT : TInv (cellsI (.slice AP pages.length cP) (.slice AL late.length cL)) 146 w0 w g (.slice Ag st.pg.length cg) (.slice Ap st.pr.length cp) (.slice Ad st.dp.length cd) st.order st.bad st.pg st.pr st.dp) (f N : Nat) (hrec : ∀ (s' : TSt) (kid : Int) (W : World) (Ag' : Option Addr) (cg' : Nat) (Ap' : Option Addr) (cp' : Nat) (Ad' : Option Addr) (cd' : Nat), s'.pg.length + N ≤ 1000000 → s'.pr.length + 4 * N ≤ 1000000 → s'.dp.length + N ≤ 1000000 → TInv (cellsI (.slice AP pages.length cP) (.slice AL late.length cL)) 146 w0 W g (.slice Ag' s'.pg.length cg') (.slice Ap' s'.pr.length cp') (.slice Ad' s'.dp.length cd') s'.order s'.bad s'.pg s'.pr s'.dp →
   Calls Try.prog 142 #[.pointer (some ⟨g, 0, none⟩), .int .i64 kid, .int .i64 (deep + 1)] W (DownPost (cellsI (.slice AP pages.length cP) (.slice AL late.length cL)) 146 w0 W g (.slice Ag' s'.pg.length cg') (.slice Ap' s'.pr.length cp') (.slice Ad' s'.dp.length cd') (dn rn f s' kid (deep + 1))))
  (hlen : ∀ s' kid, (dn rn f s' kid (deep + 1)).pg.length ≤ s'.pg.length + N ∧ s'.pr.length ≤ (dn rn f s' kid (deep + 1)).pr.length ∧ (dn rn f s' kid (deep + 1)).pr.length ≤ s'.pr.length + 4 * N ∧ (dn rn f s' kid (deep + 1)).dp.length ≤ s'.dp.length + N)
  (hbad : st.bad = false) (hok : (rn page).2 = true) (hd0 : 1 ≤ deep) (hd : deep ≤ 8) (hcon : st.pg.contains page = false) (hleaf : (rn page).1.f0 = false) (hlg : st.pg.length + 1 + 4 * N ≤ 1000000) (hlp : st.pr.length + 4 * (4 * N) ≤ 1000000) (hld : st.dp.length + 4 * N ≤ 1000000) :
  Calls Try.prog 142 #[.pointer (some ⟨g, 0, none⟩), .int .i64 page, .int .i64 deep] w (DownPost (cellsI (.slice AP pages.length cP) (.slice AL late.length cL)) 146 w0 w g (.slice Ag st.pg.length cg) (.slice Ap st.pr.length cp) (.slice Ad st.dp.length cd) (dnKids (fun s k => dn rn f s k (deep + 1)) (rn page).1.f1 (rn page).1.f3 st.pr.length 0 (rn page).1.f3.length ⟨st.pg ++ [page], st.pr, st.dp, st.order, st.bad⟩)) := by
 obtain ⟨s, ⟨k, hs⟩, hnode, hcase⟩ := hrn page
 have HS := Aside0.mk hs
 have HN := Aside0.mk hnode
 have HP := Aside0.mk hP
 have HL := Aside0.mk hL
 have HCASE := Aside0.mk hcase
 have HRN := Aside0.mk hrn
 have T0 := Aside0.mk hT
 obtain ⟨pg, pr, dp, order, bad⟩ := st
 obtain ⟨n, hn⟩ : ∃ n, (rn page).1 = n := ⟨_, rfl⟩
 obtain ⟨ok, hok⟩ : ∃ ok, (rn page).2 = ok := ⟨_, rfl⟩
 have HNN := Aside0.mk (And.intro hn hok)
 rw [hn, hok] at HN HCASE
 obtain ⟨leaf, keys, vals, kids⟩ := n
 simp only at T0
 clear hs hnode hP hL hcase hrn hT hn hok
 have hg := blk_lt T0.out.bT
 have ct0 : w.cell? ⟨g, 0, none⟩ = some (.slice AP pages.length cP) := (blk_cell T0.out.bT 0).trans rfl
 have ct1 : w.cell? ⟨g, 1, none⟩ = some (.slice AL late.length cL) := (blk_cell T0.out.bT 1).trans rfl
 rw [HNN.out.1] at hleaf ⊢
 simp only at hbad hcon hlg hlp hld hleaf ⊢
 subst hleaf
 have HREC := Aside0.mk hrec
 have HLEN := Aside0.mk hlen
 have HWD := Aside0.mk (show wrap64 (deep + 1) = deep + 1 by unfold wrap64; omega)
 clear hrec hlen
 subst hbad
 rw [HNN.out.2] at hok
 subst hok
 have hd1 : decide (8 < deep) = false := decide_eq_false (by omega)
 have hnk : nodeOkB false keys vals kids = true := by
  rcases HCASE.out with h | h
  ·exact h.2
  ·cases h.1
 obtain ⟨hshape, hcond⟩ := (nodeOk_iff _ _ _ _).1 hnk
 obtain ⟨kc, hkc⟩ := contains_ev pg page false hcon (R_seen T0.out.rg).2.2.1
 have HKC := Aside0.mk hkc
 have HLG := Aside0.mk hlg
 have HLP := Aside0.mk hlp
 have HLD := Aside0.mk hld
 obtain ⟨ks1, hks⟩ : ∃ z, z = pg ++ [page] := ⟨_, rfl⟩
 have HKS1 := Aside0.mk hks
 clear hd hcon hkc hnk hlg hlp hld hks hcond
 have HVK := Aside0.mk (hshape.2.2 rfl).1
 have hkl : kids.length ≤ 4 := by have := hshape.1.2; have := (hshape.2.2 rfl).1; omega
 clear hshape
 obtain ⟨RES, hres⟩ : ∃ z, z = dnKids (fun s k => dn rn f s k (deep + 1)) keys kids pr.length 0 kids.length ⟨ks1, pr, dp, order, false⟩ := ⟨_, rfl⟩
 have HRES := Aside0.mk hres
 rw [← HKS1.out, ← hres]
 clear hres
 go_enter Try.func142, Try.ntmps142
 go_wp2_with fail
 ((with_reducible refine (impl_ReadPage.calls k AP cP pages AL cL late page s _ (Kd.C_below HP.out T0.out.bel) hcP (Kd.C_below HL.out T0.out.bel) hcL HS.out).mono ?_); rintro e w1 ⟨rfl, hb1⟩)
 have T1 := Aside0.mk (T0.out.below hb1)
 obtain ⟨hc1, hf1⟩ := bcell hb1
 have HB1 := Aside0.mk hb1
 clear hb1
 go_wp2_with fail
 ((with_reducible refine (HN.out _).mono ?_); rintro e w2 ⟨A1, c1, A2, c2, A3, c3, rfl, r1, r2, r3, hb2⟩)
 have T3 := Aside0.mk ((T1.out.below hb2).alloc (.cells #[.bool false, .slice A1 keys.length c1, .slice A2 vals.length c2, .slice A3 kids.length c3] 68))
 have HB2 := Aside0.mk (show Below w.heap.size w w2 from below_step HB1.out hb2)
 have BN := Aside0.mk (blk_new w2 (.cells #[.bool false, .slice A1 keys.length c1, .slice A2 vals.length c2, .slice A3 kids.length c3] 68))
 have R1 := Aside0.mk (Kd.R_lower (base' := w0.heap.size) (Kd.R_below r1 (below_alloc (Below.refl _ _) (.cells #[.bool false, .slice A1 keys.length c1, .slice A2 vals.length c2, .slice A3 kids.length c3] 68))) T1.out.bel.size)
 have R2 := Aside0.mk (Kd.R_lower (base' := w0.heap.size) (Kd.R_below r2 (below_alloc (Below.refl _ _) (.cells #[.bool false, .slice A1 keys.length c1, .slice A2 vals.length c2, .slice A3 kids.length c3] 68))) T1.out.bel.size)
 have R3 := Aside0.mk (Kd.R_lower (base' := w0.heap.size) (Kd.R_below r3 (below_alloc (Below.refl _ _) (.cells #[.bool false, .slice A1 keys.length c1, .slice A2 vals.length c2, .slice A3 kids.length c3] 68))) T1.out.bel.size)
 have HF3 := Aside0.mk ((TFr.refl w g (.slice Ag pg.length cg) (.slice Ap pr.length cp) (.slice Ad dp.length cd)).below (below_alloc HB2.out (.cells #[.bool false, .slice A1 keys.length c1, .slice A2 vals.length c2, .slice A3 kids.length c3] 68)))
 have hne : NeRow (.slice A1 keys.length c1) (.slice Ag pg.length cg) ∧ NeRow (.slice A3 kids.length c3) (.slice Ag pg.length cg) ∧ NeRow (.slice A3 kids.length c3) (.slice Ad dp.length cd) := ⟨ne_fresh r1 T1.out.rg, ne_fresh r3 T1.out.rg, ne_fresh r3 T1.out.rd⟩
 have HNE := Aside0.mk hne
 have hsz := Aside0.mk (show w.heap.size ≤ w2.heap.size from HB2.out.size)
 clear r1 r2 r3 hb2 hc1 hf1 ct0 ct1 T1 hne
 go_upto_region 1 with (fail)
 have hgN := Aside0.mk (blk_lt BN.out)
 generalize hw3 : w2.alloc (.cells #[.bool false, .slice A1 keys.length c1, .slice A2 vals.length c2, .slice A3 kids.length c3] 68) = w3 at T3 BN R1 R2 R3 HF3 hgN ⊢
 clear hw3
 obtain ⟨gN, hgn⟩ : ∃ gN, w2.heap.size = gN := ⟨_, rfl⟩
 rw [hgn] at BN hsz hgN ⊢
 clear hgn
 have hgl := blk_lt T3.out.bT
 have hf2 := blk_frozen T3.out.bT
 have hd2 : w3.cell? ⟨g, 2, none⟩ = some (.slice Ag pg.length cg) := (blk_cell T3.out.bT 2).trans rfl
 have hd3 : w3.cell? ⟨g, 3, none⟩ = some (.slice Ap pr.length cp) := (blk_cell T3.out.bT 3).trans rfl
 have hd4 : w3.cell? ⟨g, 4, none⟩ = some (.slice Ad dp.length cd) := (blk_cell T3.out.bT 4).trans rfl
 have hd5 : w3.cell? ⟨g, 5, none⟩ = some (.bool order) := (blk_cell T3.out.bT 5).trans rfl
 have hd6 : w3.cell? ⟨g, 6, none⟩ = some (.bool false) := (blk_cell T3.out.bT 6).trans rfl
 go_wp2_with fail
 ((with_reducible refine (slices_Contains_int_int.calls kc Ag cg pg page false _ (R_seen T3.out.rg).2 (R_seen T3.out.rg).1 HKC.out).mono ?_); rintro e w4 ⟨rfl, nd4, rfl⟩)
 have T4 := Aside0.mk (T3.out.below (Drawn0.below ⟨nd4, rfl⟩))
 have BN4 := Aside0.mk (blk_below BN.out (Drawn0.below ⟨nd4, rfl⟩))
 have R14 := Aside0.mk (Kd.R_below R1.out (Drawn0.below ⟨nd4, rfl⟩))
 have R24 := Aside0.mk (Kd.R_below R2.out (Drawn0.below ⟨nd4, rfl⟩))
 have R34 := Aside0.mk (Kd.R_below R3.out (Drawn0.below ⟨nd4, rfl⟩))
 have HF4 := Aside0.mk (HF3.out.below (Drawn0.below ⟨nd4, rfl⟩))
 clear T3 BN R1 R2 R3 HF3
 generalize w3.drewN nd4 = w4 at T4 BN4 R14 R24 R34 HF4 ⊢
 have hgl4 := blk_lt T4.out.bT
 have hd24 : w4.cell? ⟨g, 2, none⟩ = some (.slice Ag pg.length cg) := (blk_cell T4.out.bT 2).trans rfl
 clear hf2 hd2 hd3 hd4 hd5 hd6 hgl
 go_upto_region 4 with (((with_reducible refine gate_builtin (b := .append) (xs := #[.tmp 51, .tmp 53]) rfl ?_); at_builtin; refine Kd.R_append (Kd.int .i64) (w0 := w0) w0.heap.size rfl (.tmp 51) (.tmp 53) 30 3 (.int .i64 0) 8 rfl Try.underlying30 info3d rfl (by decide) (by omega) (.slice Ag pg.length cg) pg page [.int .i64 page] (fun _ => True) (fun _ => False) rfl rfl ?aP (fun _ hk => hk.elim) ?aF ?aO ?aB ?aS ?aL ?_; (case aP => exact rfl); (case aF => exact (fun _ _ => trivial)); (case aO => exact T4.out.rg); (case aB => exact T4.out.bel); (case aS => exact T4.out.bel.size); (case aL => have := HLG.out; omega); intro va wa ho hb hgr hat; rw [← HKS1.out] at ho; obtain ⟨Ao1, co1, eo⟩ := Kd.R_slice ho; subst eo; have ba := Aside0.mk (blk_grown T4.out.bT hgr (Kd.R_ne T4.out.rg T4.out.bT (by decide))); have hsa : wa.cell? ⟨g, 2, none⟩ = some (.slice Ag pg.length cg) := (blk_cell ba.out 2).trans rfl; have hfa := blk_frozen ba.out; have hla := blk_lt ba.out; have TT := Aside0.mk (T4.out.pushPg (layI _ _) (by decide) ho hb hgr hat); clear ho hb hgr hat))
 clear hsa hfa hla ba hd24 hgl4
 generalize hwx : wa.setCell ⟨g, 2, none⟩ _ = w5 at TT ⊢
 clear hwx
 obtain ⟨TT1, TT2⟩ := TT.out
 have T5 := Aside0.mk TT1
 have HF5 := Aside0.mk (HF4.out.trans TT2)
 have BN5 := Aside0.mk (blk_fr TT2 T4.out BN4.out (by decide))
 have R15 := Aside0.mk (R9_fr TT2 T4.out (by decide) R14.out)
 have R25 := Aside0.mk (R9_fr TT2 T4.out (by decide) R24.out)
 have R35 := Aside0.mk (R3_fr TT2 T4.out (by decide) R34.out HNE.out.2.1 HNE.out.2.2)
 clear TT TT1 TT2 T4 BN4 R14 R24 R34 HF4
 have hgl5 := blk_lt T5.out.bT
 have hd35 : w5.cell? ⟨g, 3, none⟩ = some (.slice Ap pr.length cp) := (blk_cell T5.out.bT 3).trans rfl
 have hn05 : w5.cell? ⟨gN, 0, none⟩ = some (.bool false) := (blk_cell BN5.out 0).trans rfl
 have hn35 : w5.cell? ⟨gN, 3, none⟩ = some (.slice A3 kids.length c3) := (blk_cell BN5.out 3).trans rfl
 go_wp2_with fail
 clear hgl5 hd35 hn05 hn35
 go_loopg [102] kids.length (fun gg s102 wr => ∃ (kk : Nat) (sti : TSt) (Agk : Option Addr) (cgk : Nat) (Apk : Option Addr) (cpk : Nat) (Adk : Option Addr) (cdk : Nat), kk ≤ kids.length ∧ kids.length - kk ≤ gg ∧ s102 = .int .i64 kk ∧ Aside0 (TInv (cellsI (.slice AP pages.length cP) (.slice AL late.length cL)) 146 w0 wr g (.slice Agk sti.pg.length cgk) (.slice Apk sti.pr.length cpk) (.slice Adk sti.dp.length cdk) sti.order false sti.pg sti.pr sti.dp) ∧ Aside0 (wr.heap[gN]? = some (.cells #[.bool false, .slice A1 keys.length c1, .slice A2 vals.length c2, .slice A3 kids.length c3] 68 (0, 0))) ∧
   Aside0 (Kd.R Kd.string 9 wr w0.heap.size (fun _ => True) (.slice A1 keys.length c1) keys) ∧ Aside0 (Kd.R (Kd.int .i64) 3 wr w0.heap.size (fun _ => True) (.slice A3 kids.length c3) kids ∧ NeRow (.slice A3 kids.length c3) (.slice Agk sti.pg.length cgk) ∧ NeRow (.slice A3 kids.length c3) (.slice Adk sti.dp.length cdk)) ∧ Aside0 (TFr w wr g (.slice Ag pg.length cg) (.slice Ap pr.length cp) (.slice Ad dp.length cd) (.slice Agk sti.pg.length cgk) (.slice Apk sti.pr.length cpk) (.slice Adk sti.dp.length cdk)) ∧
   Aside0 (dnKids (fun s k => dn rn f s k (deep + 1)) keys kids pr.length kk (kids.length - kk) sti = RES) ∧ Aside0 (sti.bad = false ∧ pr.length ≤ sti.pr.length ∧ sti.pg.length ≤ pg.length + 1 + kk * N ∧ sti.pr.length ≤ pr.length + kk * (4 * N) ∧ sti.dp.length ≤ dp.length + kk * N))
 case atStart =>
  exact ⟨0, ⟨ks1, pr, dp, order, false⟩, Ao1, co1, Ap, cp, Ad, cd, Nat.zero_le _, by omega, rfl, T5, BN5, R15, R35, HF5, ⟨HRES.out.symm⟩, ⟨rfl, Nat.le_refl _, by show ks1.length ≤ _; rw [HKS1.out]; simp, by simp, by simp⟩⟩
 case round =>
  clear T5 BN5 R15 R25 R35 HF5
  obtain ⟨kk, sti, Agk, cgk, Apk, cpk, Adk, cdk, hkk, hgg, rfl, TK, BNK, R1K, R3K, HFK, HRK, HLK⟩ := hrel
  by_cases hlt : kk < kids.length
  ·have hltz : (kk : Int) < (kids.length : Int) := by omega
   have hlk : kk < keys.length := by have := HVK.out; omega
   have hlkz : (kk : Int) < (keys.length : Int) := by omega
   obtain ⟨ad1, rfl⟩ := some_ad R1K.out (by omega)
   obtain ⟨ad3, rfl⟩ := some_ad R3K.out.1 (by omega)
   have hk3 := seen_int R3K.out.1 hlt
   obtain ⟨key, hkey⟩ : ∃ key, keys[kk] = key := ⟨_, rfl⟩
   obtain ⟨kid, hkid⟩ : ∃ kid, kids[kk] = kid := ⟨_, rfl⟩
   rw [hkid] at hk3
   have HKEY := Aside0.mk (show keys.getD kk ByteArray.empty = key by rw [List.getD_eq_getElem?_getD, List.getElem?_eq_getElem hlk, Option.getD_some, hkey])
   have HKID := Aside0.mk (show kids.getD kk 0 = kid by rw [List.getD_eq_getElem?_getD, List.getElem?_eq_getElem hlt, Option.getD_some, hkid])
   have HKEY2 := Aside0.mk hkey
   obtain ⟨pgi, pri, dpi, ordi, badi⟩ := sti
   simp only at TK R3K HFK HLK
   obtain rfl : badi = false := HLK.out.1
   obtain ⟨hm1, hm2, hm3, hm4⟩ := HLK.out.2
   have hkN : kk * N ≤ 3 * N := Nat.mul_le_mul_right _ (by omega)
   have hkN4 : kk * (4 * N) ≤ 3 * (4 * N) := Nat.mul_le_mul_right _ (by omega)
   have hq1 : pgi.length + N ≤ 1000000 := by have := HLG.out; omega
   have hq2 : pri.length + 4 * N ≤ 1000000 := by have := HLP.out; omega
   have hq3 : dpi.length + N ≤ 1000000 := by have := HLD.out; omega
   have HQ := Aside0.mk (And.intro hq1 (And.intro hq2 hq3))
   have HLN := Aside0.mk (HLEN.out ⟨pgi, pri, dpi, ordi, false⟩ kid)
   have HSTEP := Aside0.mk (show dnKids (fun s k => dn rn f s k (deep + 1)) keys kids pr.length kk (kids.length - (kk + 1) + 1) ⟨pgi, pri, dpi, ordi, false⟩ = RES by rw [show kids.length - (kk + 1) + 1 = kids.length - kk by omega]; exact HRK.out)
   have hgK := blk_lt TK.out.bT
   have hd3K : wr.cell? ⟨g, 3, none⟩ = some (.slice Apk pri.length cpk) := (blk_cell TK.out.bT 3).trans rfl
   clear hkey hkid hm1 hm2 hm3 hm4 hkN hkN4 hq1 hq2 hq3 HRK
   go_wp2_with fail
   ((with_reducible refine (calls_arg (HREC.out ⟨pgi, pri, dpi, ordi, false⟩ kid _ Agk cgk Apk cpk Adk cdk HQ.out.1 HQ.out.2.1 HQ.out.2.2 TK.out) HWD.out).mono ?_); rintro e w6 ⟨rfl, Agn, cgn, Apn, cpn, Adn, cdn, TN, FN⟩)
   have TN' := Aside0.mk TN
   have FN' := Aside0.mk FN
   clear TN FN
   obtain ⟨sn, hsn⟩ : ∃ z, dn rn f ⟨pgi, pri, dpi, ordi, false⟩ kid (deep + 1) = z := ⟨_, rfl⟩
   have HSN := Aside0.mk hsn
   rw [hsn] at TN' FN' HLN
   clear hsn
   obtain ⟨pgn, prn, dpn, ordn, badn⟩ := sn
   simp only at TN' FN' HLN
   have BN6 := Aside0.mk (blk_fr FN'.out TK.out BNK.out (by decide))
   have R16 := Aside0.mk (R9_fr FN'.out TK.out (by decide) R1K.out)
   have R36 := Aside0.mk (R3_fr FN'.out TK.out (by decide) R3K.out.1 R3K.out.2.1 R3K.out.2.2)
   have HF6 := Aside0.mk (HFK.out.trans FN'.out)
   clear TK BNK R1K R3K HFK FN' hk3 hd3K hgK
   have hg6 := blk_lt TN'.out.bT
   cases hbn : badn with
   | true =>
    subst hbn
    have hd66 : w6.cell? ⟨g, 6, none⟩ = some (.bool true) := (blk_cell TN'.out.bT 6).trans rfl
    have HE := Aside0.mk (show (⟨pgn, prn, dpn, ordn, true⟩ : TSt) = RES by
     rw [← HSTEP.out, dnKids, HKID.out, HSN.out, if_pos rfl])
    go_wp2
    refine bodyPost_ret (results_list (rs := []) (vs := []) rfl (by simp) Vals.nil) rfl ?_
    rw [← HE.out]
    exact ⟨rfl, _, _, _, _, _, _, TN'.out, HF6.out⟩
   | false =>
    subst hbn
    have hd66 : w6.cell? ⟨g, 6, none⟩ = some (.bool false) := (blk_cell TN'.out.bT 6).trans rfl
    obtain ⟨bl, hbl⟩ : ∃ z, (prn.drop pri.length).any (belowK key) = z := ⟨_, rfl⟩
    obtain ⟨fr, hfr⟩ : ∃ z, (((prn.take pri.length).drop pr.length).any fun x => !(belowK key x)) = z := ⟨_, rfl⟩
    have HBL := Aside0.mk hbl
    have HFR := Aside0.mk hfr
    clear hbl hfr
    have HE := Aside0.mk (show dnKids (fun s k => dn rn f s k (deep + 1)) keys kids pr.length (kk + 1) (kids.length - (kk + 1)) ⟨pgn, prn, dpn, ordn && !bl && !fr, false⟩ = RES by
     rw [← HSTEP.out, dnKids, HKID.out, HSN.out, if_neg (by simp), HKEY.out]
     simp only
     rw [HBL.out, HFR.out])
    obtain ⟨Ac1, hcut1, hcall1⟩ := keyBelow_cut Apn cpn pri.length prn HLN.out.2.1 (R_seen TN'.out.rp).1
    obtain ⟨Ac2, hcut2, hcall2⟩ := keyFrom_cut Apn cpn pr.length pri.length prn HLK.out.2.1 HLN.out.2.1 (R_seen TN'.out.rp).1
    have HC1 := Aside0.mk hcall1
    have HC2 := Aside0.mk hcall2
    clear hcall1 hcall2
    have hlpr : pr.length ≤ pri.length := HLK.out.2.1
    have hlpr2 : pri.length ≤ prn.length := HLN.out.2.1
    go_wp2_with fail
    cases hor : ordn with
    | false =>
     subst hor
     have Td := Aside0.mk TN'.out.drew
     have Bd := Aside0.mk (blk_below BN6.out (Below.refl _ _).drew)
     have Rd1 := Aside0.mk (Kd.R_below R16.out (Below.refl _ _).drew)
     have Rd3 := Aside0.mk (And.intro (Kd.R_below R36.out.1 (Below.refl _ _).drew) R36.out.2)
     have Fd := Aside0.mk (HF6.out.below (Below.refl _ _).drew)
     clear TN' BN6 R16 R36 HF6 hd66 hg6
     refine seq_start impl_down.ok18_1 (S := fun w' => w'.cell? ⟨g, 5, none⟩ = some (.bool false) ∧ w'.cell? ⟨g, 3, none⟩ = some (.slice Apn prn.length cpn) ∧ w'.cell? ⟨gN, 1, none⟩ = some (.slice (some ad1) keys.length c1) ∧ w'.cell? (ad1.add kk) = some (.string key)) (by kernel_rfl) (fun _ _ _ _ h => h) ⟨(blk_cell Td.out.bT 5).trans rfl, (blk_cell Td.out.bT 3).trans rfl, (blk_cell Bd.out 1).trans rfl, (seen_str Rd1.out hlk).trans (by rw [HKEY2.out])⟩ (fun hHeld => ?_)
     generalize w6.drew = wd at Td Bd Rd1 Rd3 Fd hHeld ⊢
     iterate 4 (refine seq_p (v := ?_) (a' := ?_) rfl rfl (Or.inl ⟨by rfl, ?_⟩) ?_ ?_; rotate_left; (· intro w'; go_simp; with_reducible rfl); rotate_left; (· show Act.put _ (some _) _ = _; simp only [Act.put, List.setIfInBounds_toArray, List.set_cons_zero, List.set_cons_succ, i64_w, i32_w]; try rfl))
     (refine seq_t (v := ?_) (a' := ?_) rfl rfl (Or.inl ⟨by rfl, ?_⟩) ?_ ?_; rotate_left; (· rintro w' ⟨s0, s1, s2, s3⟩; go_simp; with_reducible rfl); rotate_left; (· show Act.put _ (some _) _ = _; simp only [Act.put, List.setIfInBounds_toArray, List.set_cons_zero, List.set_cons_succ, i64_w, i32_w]; try rfl))
     (refine seq_p (v := ?_) (a' := ?_) rfl rfl (Or.inl ⟨by rfl, ?_⟩) ?_ ?_; rotate_left; (· intro w'; go_simp; with_reducible rfl); rotate_left; (· show Act.put _ (some _) _ = _; simp only [Act.put, List.setIfInBounds_toArray, List.set_cons_zero, List.set_cons_succ, i64_w, i32_w]; try rfl))
     iterate 13 (refine seq_p (v := undef) (a' := ?_) rfl rfl (Or.inr ⟨by rfl, rfl⟩) ?_ ?_; rotate_left; (· show Act.put _ (some _) _ = _; simp only [Act.put, List.setIfInBounds_toArray, List.set_cons_zero, List.set_cons_succ, i64_w, i32_w]; try rfl))
     iterate 2 (refine seq_p (v := ?_) (a' := ?_) rfl rfl (Or.inl ⟨by rfl, ?_⟩) ?_ ?_; rotate_left; (· intro w'; go_simp; with_reducible rfl); rotate_left; (· show Act.put _ (some _) _ = _; simp only [Act.put, List.setIfInBounds_toArray, List.set_cons_zero, List.set_cons_succ, i64_w, i32_w]; try rfl))
     iterate 14 (refine seq_p (v := undef) (a' := ?_) rfl rfl (Or.inr ⟨by rfl, rfl⟩) ?_ ?_; rotate_left; (· show Act.put _ (some _) _ = _; simp only [Act.put, List.setIfInBounds_toArray, List.set_cons_zero, List.set_cons_succ, i64_w, i32_w]; try rfl))
     iterate 3 (refine seq_p (v := ?_) (a' := ?_) rfl rfl (Or.inl ⟨by rfl, ?_⟩) ?_ ?_; rotate_left; (· intro w'; go_simp; with_reducible rfl); rotate_left; (· show Act.put _ (some _) _ = _; simp only [Act.put, List.setIfInBounds_toArray, List.set_cons_zero, List.set_cons_succ, i64_w, i32_w]; try rfl))
     refine seq_l rfl rfl (fun K hK => ?_)
     have hs1 : wd.cell? ⟨g, 5, none⟩ = some (.bool false) := (blk_cell Td.out.bT 5).trans rfl
     have hf1 := blk_frozen Td.out.bT 5
     refine skip_ (w1 := ?_) (by rfl) rfl ?_ ?_
     rotate_left
     ·go_simp
      rfl
     refine hK.out _ _ ?_
     clear hK K
     refine seq_done ?_
     clear hs1 hf1 hHeld
     have T7 := Aside0.mk (set1 (x := false) (layI _ _) (by decide) Td.out)
     have F7 := Aside0.mk (Fd.out.set 5 (.bool (false)))
     have B7 := Aside0.mk (blk_far (p := ⟨g, 5, none⟩) Bd.out (blk_ne Bd.out Td.out.bT (by decide)) (.bool (false)))
     have R17 := Aside0.mk (Kd.R_set Rd1.out Td.out.bT (by decide) 5 (.bool (false)))
     have R37 := Aside0.mk (And.intro (Kd.R_set Rd3.out.1 Td.out.bT (by decide) 5 (.bool (false))) Rd3.out.2)
     clear Td Bd Rd1 Rd3 Fd hcut1 hcut2 HC1 HC2
     generalize hwx : wd.setCell ⟨g, 5, none⟩ _ = w7 at T7 F7 B7 R17 R37 ⊢
     clear hwx
     go_wp2
     have hw : wrap64 ((kk : Int) + 1) = ((kk + 1 : Nat) : Int) := by unfold wrap64; omega
     have HW := Aside0.mk hw
     clear hw
     go_roundg (kids.length - (kk + 1))
     case measure => omega
     case rel =>
      have hml := HLK.out.2
      have hln := HLN.out
      have e1 : (kk + 1) * N = kk * N + N := Nat.succ_mul _ _
      have e2 : (kk + 1) * (4 * N) = kk * (4 * N) + 4 * N := Nat.succ_mul _ _
      exact ⟨kk + 1, ⟨pgn, prn, dpn, false, false⟩, Agn, cgn, Apn, cpn, Adn, cdn, by omega, by omega, by first | rfl | exact congrArg (Value.int .i64) HW.out, T7, B7, R17, R37, F7, ⟨by have := HE.out; simpa using this⟩, ⟨rfl, by show pr.length ≤ prn.length; omega, by show pgn.length ≤ _; rw [e1]; omega, by show prn.length ≤ _; rw [e2]; omega, by show dpn.length ≤ _; rw [e1]; omega⟩⟩
    | true =>
     subst hor
     cases hbb : bl with
     | true =>
      subst hbb
      have Td := Aside0.mk TN'.out.drew
      have Bd := Aside0.mk (blk_below BN6.out (Below.refl _ _).drew)
      have Rd1 := Aside0.mk (Kd.R_below R16.out (Below.refl _ _).drew)
      have Rd3 := Aside0.mk (And.intro (Kd.R_below R36.out.1 (Below.refl _ _).drew) R36.out.2)
      have Fd := Aside0.mk (HF6.out.below (Below.refl _ _).drew)
      clear TN' BN6 R16 R36 HF6 hd66 hg6
      refine seq_start impl_down.ok18_2 (S := fun w' => w'.cell? ⟨g, 5, none⟩ = some (.bool true) ∧ w'.cell? ⟨g, 3, none⟩ = some (.slice Apn prn.length cpn) ∧ w'.cell? ⟨gN, 1, none⟩ = some (.slice (some ad1) keys.length c1) ∧ w'.cell? (ad1.add kk) = some (.string key)) (by kernel_rfl) (fun _ _ _ _ h => h) ⟨(blk_cell Td.out.bT 5).trans rfl, (blk_cell Td.out.bT 3).trans rfl, (blk_cell Bd.out 1).trans rfl, (seen_str Rd1.out hlk).trans (by rw [HKEY2.out])⟩ (fun hHeld => ?_)
      generalize w6.drew = wd at Td Bd Rd1 Rd3 Fd hHeld ⊢
      iterate 4 (refine seq_p (v := ?_) (a' := ?_) rfl rfl (Or.inl ⟨by rfl, ?_⟩) ?_ ?_; rotate_left; (· intro w'; go_simp; with_reducible rfl); rotate_left; (· show Act.put _ (some _) _ = _; simp only [Act.put, List.setIfInBounds_toArray, List.set_cons_zero, List.set_cons_succ, i64_w, i32_w]; try rfl))
      (refine seq_t (v := ?_) (a' := ?_) rfl rfl (Or.inl ⟨by rfl, ?_⟩) ?_ ?_; rotate_left; (· rintro w' ⟨s0, s1, s2, s3⟩; go_simp; with_reducible rfl); rotate_left; (· show Act.put _ (some _) _ = _; simp only [Act.put, List.setIfInBounds_toArray, List.set_cons_zero, List.set_cons_succ, i64_w, i32_w]; try rfl))
      iterate 4 (refine seq_p (v := ?_) (a' := ?_) rfl rfl (Or.inl ⟨by rfl, ?_⟩) ?_ ?_; rotate_left; (· intro w'; go_simp; with_reducible rfl); rotate_left; (· show Act.put _ (some _) _ = _; simp only [Act.put, List.setIfInBounds_toArray, List.set_cons_zero, List.set_cons_succ, i64_w, i32_w]; try rfl))
      (refine seq_t (v := ?_) (a' := ?_) rfl rfl (Or.inl ⟨by rfl, ?_⟩) ?_ ?_; rotate_left; (· rintro w' ⟨s0, s1, s2, s3⟩; go_simp; with_reducible rfl); rotate_left; (· show Act.put _ (some _) _ = _; simp only [Act.put, List.setIfInBounds_toArray, List.set_cons_zero, List.set_cons_succ, i64_w, i32_w]; try rfl))
      iterate 3 (refine seq_p (v := ?_) (a' := ?_) rfl rfl (Or.inl ⟨by rfl, ?_⟩) ?_ ?_; rotate_left; (· intro w'; go_simp; with_reducible rfl); rotate_left; (· show Act.put _ (some _) _ = _; simp only [Act.put, List.setIfInBounds_toArray, List.set_cons_zero, List.set_cons_succ, i64_w, i32_w]; try rfl))
      (refine seq_t (v := ?_) (a' := ?_) rfl rfl (Or.inl ⟨by rfl, ?_⟩) ?_ ?_; rotate_left; (· rintro w' ⟨s0, s1, s2, s3⟩; go_simp; with_reducible rfl); rotate_left; (· show Act.put _ (some _) _ = _; simp only [Act.put, List.setIfInBounds_toArray, List.set_cons_zero, List.set_cons_succ, i64_w, i32_w]; try rfl))
      iterate 2 (refine seq_p (v := ?_) (a' := ?_) rfl rfl (Or.inl ⟨by rfl, ?_⟩) ?_ ?_; rotate_left; (· intro w'; go_simp; with_reducible rfl); rotate_left; (· show Act.put _ (some _) _ = _; simp only [Act.put, List.setIfInBounds_toArray, List.set_cons_zero, List.set_cons_succ, i64_w, i32_w]; try rfl))
      (refine seq_t (v := ?_) (a' := ?_) rfl rfl (Or.inl ⟨by rfl, ?_⟩) ?_ ?_; rotate_left; (· rintro w' ⟨s0, s1, s2, s3⟩; go_simp; with_reducible rfl); rotate_left; (· show Act.put _ (some _) _ = _; simp only [Act.put, List.setIfInBounds_toArray, List.set_cons_zero, List.set_cons_succ, i64_w, i32_w]; try rfl))
      refine seq_call rfl rfl Try.func161 (by kernel_rfl) rfl #[.slice Ac1 (prn.length - pri.length) (cpn - pri.length), .string key] (by rfl) rfl (by (try simp only [List.map_toArray, List.map_cons, List.map_nil]); first | done | rfl) ?_
      with_reducible refine (HC1.out _ key true (R_seen Td.out.rp).2 HBL.out).mono ?_
      rintro e wn ⟨rfl, hbn⟩
      have Td_ := Aside0.mk (Td.out.below hbn)
      have Bd_ := Aside0.mk (blk_below Bd.out hbn)
      have Rd1_ := Aside0.mk (Kd.R_below Rd1.out hbn)
      have Rd3_ := Aside0.mk (And.intro (Kd.R_below Rd3.out.1 hbn) Rd3.out.2)
      have Fd_ := Aside0.mk (Fd.out.below hbn)
      clear Td Bd Rd1 Rd3 Fd hbn
      have Td := Td_
      have Bd := Bd_
      have Rd1 := Rd1_
      have Rd3 := Rd3_
      have Fd := Fd_
      clear Td_ Bd_ Rd1_ Rd3_ Fd_
      refine ⟨_, rfl, ⟨(blk_cell Td.out.bT 5).trans rfl, (blk_cell Td.out.bT 3).trans rfl, (blk_cell Bd.out 1).trans rfl, (seen_str Rd1.out hlk).trans (by rw [HKEY2.out])⟩, (fun hHeld => ?_)⟩
      refine seq_norm (a' := ?_) ?_ ?_; rotate_left; (· show Act.put _ (some 138) _ = _; simp only [Act.put, List.setIfInBounds_toArray, List.set_cons_zero, List.set_cons_succ, i64_w, i32_w]; try rfl)
      iterate 3 (refine seq_p (v := ?_) (a' := ?_) rfl rfl (Or.inl ⟨by rfl, ?_⟩) ?_ ?_; rotate_left; (· intro w'; go_simp; with_reducible rfl); rotate_left; (· show Act.put _ (some _) _ = _; simp only [Act.put, List.setIfInBounds_toArray, List.set_cons_zero, List.set_cons_succ, i64_w, i32_w]; try rfl))
      iterate 14 (refine seq_p (v := undef) (a' := ?_) rfl rfl (Or.inr ⟨by rfl, rfl⟩) ?_ ?_; rotate_left; (· show Act.put _ (some _) _ = _; simp only [Act.put, List.setIfInBounds_toArray, List.set_cons_zero, List.set_cons_succ, i64_w, i32_w]; try rfl))
      iterate 3 (refine seq_p (v := ?_) (a' := ?_) rfl rfl (Or.inl ⟨by rfl, ?_⟩) ?_ ?_; rotate_left; (· intro w'; go_simp; with_reducible rfl); rotate_left; (· show Act.put _ (some _) _ = _; simp only [Act.put, List.setIfInBounds_toArray, List.set_cons_zero, List.set_cons_succ, i64_w, i32_w]; try rfl))
      refine seq_l rfl rfl (fun K hK => ?_)
      have hs1 : wn.cell? ⟨g, 5, none⟩ = some (.bool true) := (blk_cell Td.out.bT 5).trans rfl
      have hf1 := blk_frozen Td.out.bT 5
      refine skip_ (w1 := ?_) (by rfl) rfl ?_ ?_
      rotate_left
      ·go_simp
       rfl
      refine hK.out _ _ ?_
      clear hK K
      refine seq_done ?_
      clear hs1 hf1 hHeld
      have T7 := Aside0.mk (set1 (x := false) (layI _ _) (by decide) Td.out)
      have F7 := Aside0.mk (Fd.out.set 5 (.bool (false)))
      have B7 := Aside0.mk (blk_far (p := ⟨g, 5, none⟩) Bd.out (blk_ne Bd.out Td.out.bT (by decide)) (.bool (false)))
      have R17 := Aside0.mk (Kd.R_set Rd1.out Td.out.bT (by decide) 5 (.bool (false)))
      have R37 := Aside0.mk (And.intro (Kd.R_set Rd3.out.1 Td.out.bT (by decide) 5 (.bool (false))) Rd3.out.2)
      clear Td Bd Rd1 Rd3 Fd hcut1 hcut2 HC1 HC2
      generalize hwx : wn.setCell ⟨g, 5, none⟩ _ = w7 at T7 F7 B7 R17 R37 ⊢
      clear hwx
      go_wp2
      have hw : wrap64 ((kk : Int) + 1) = ((kk + 1 : Nat) : Int) := by unfold wrap64; omega
      have HW := Aside0.mk hw
      clear hw
      go_roundg (kids.length - (kk + 1))
      case measure => omega
      case rel =>
       have hml := HLK.out.2
       have hln := HLN.out
       have e1 : (kk + 1) * N = kk * N + N := Nat.succ_mul _ _
       have e2 : (kk + 1) * (4 * N) = kk * (4 * N) + 4 * N := Nat.succ_mul _ _
       exact ⟨kk + 1, ⟨pgn, prn, dpn, false, false⟩, Agn, cgn, Apn, cpn, Adn, cdn, by omega, by omega, by first | rfl | exact congrArg (Value.int .i64) HW.out, T7, B7, R17, R37, F7, ⟨by have := HE.out; simpa using this⟩, ⟨rfl, by show pr.length ≤ prn.length; omega, by show pgn.length ≤ _; rw [e1]; omega, by show prn.length ≤ _; rw [e2]; omega, by show dpn.length ≤ _; rw [e1]; omega⟩⟩
     | false =>
      subst hbb
      have Td := Aside0.mk TN'.out.drew
      have Bd := Aside0.mk (blk_below BN6.out (Below.refl _ _).drew)
      have Rd1 := Aside0.mk (Kd.R_below R16.out (Below.refl _ _).drew)
      have Rd3 := Aside0.mk (And.intro (Kd.R_below R36.out.1 (Below.refl _ _).drew) R36.out.2)
      have Fd := Aside0.mk (HF6.out.below (Below.refl _ _).drew)
      clear TN' BN6 R16 R36 HF6 hd66 hg6
      refine seq_start impl_down.ok18_3 (S := fun w' => w'.cell? ⟨g, 5, none⟩ = some (.bool true) ∧ w'.cell? ⟨g, 3, none⟩ = some (.slice Apn prn.length cpn) ∧ w'.cell? ⟨gN, 1, none⟩ = some (.slice (some ad1) keys.length c1) ∧ w'.cell? (ad1.add kk) = some (.string key)) (by kernel_rfl) (fun _ _ _ _ h => h) ⟨(blk_cell Td.out.bT 5).trans rfl, (blk_cell Td.out.bT 3).trans rfl, (blk_cell Bd.out 1).trans rfl, (seen_str Rd1.out hlk).trans (by rw [HKEY2.out])⟩ (fun hHeld => ?_)
      generalize w6.drew = wd at Td Bd Rd1 Rd3 Fd hHeld ⊢
      iterate 4 (refine seq_p (v := ?_) (a' := ?_) rfl rfl (Or.inl ⟨by rfl, ?_⟩) ?_ ?_; rotate_left; (· intro w'; go_simp; with_reducible rfl); rotate_left; (· show Act.put _ (some _) _ = _; simp only [Act.put, List.setIfInBounds_toArray, List.set_cons_zero, List.set_cons_succ, i64_w, i32_w]; try rfl))
      (refine seq_t (v := ?_) (a' := ?_) rfl rfl (Or.inl ⟨by rfl, ?_⟩) ?_ ?_; rotate_left; (· rintro w' ⟨s0, s1, s2, s3⟩; go_simp; with_reducible rfl); rotate_left; (· show Act.put _ (some _) _ = _; simp only [Act.put, List.setIfInBounds_toArray, List.set_cons_zero, List.set_cons_succ, i64_w, i32_w]; try rfl))
      iterate 4 (refine seq_p (v := ?_) (a' := ?_) rfl rfl (Or.inl ⟨by rfl, ?_⟩) ?_ ?_; rotate_left; (· intro w'; go_simp; with_reducible rfl); rotate_left; (· show Act.put _ (some _) _ = _; simp only [Act.put, List.setIfInBounds_toArray, List.set_cons_zero, List.set_cons_succ, i64_w, i32_w]; try rfl))
      (refine seq_t (v := ?_) (a' := ?_) rfl rfl (Or.inl ⟨by rfl, ?_⟩) ?_ ?_; rotate_left; (· rintro w' ⟨s0, s1, s2, s3⟩; go_simp; with_reducible rfl); rotate_left; (· show Act.put _ (some _) _ = _; simp only [Act.put, List.setIfInBounds_toArray, List.set_cons_zero, List.set_cons_succ, i64_w, i32_w]; try rfl))
      iterate 3 (refine seq_p (v := ?_) (a' := ?_) rfl rfl (Or.inl ⟨by rfl, ?_⟩) ?_ ?_; rotate_left; (· intro w'; go_simp; with_reducible rfl); rotate_left; (· show Act.put _ (some _) _ = _; simp only [Act.put, List.setIfInBounds_toArray, List.set_cons_zero, List.set_cons_succ, i64_w, i32_w]; try rfl))
      (refine seq_t (v := ?_) (a' := ?_) rfl rfl (Or.inl ⟨by rfl, ?_⟩) ?_ ?_; rotate_left; (· rintro w' ⟨s0, s1, s2, s3⟩; go_simp; with_reducible rfl); rotate_left; (· show Act.put _ (some _) _ = _; simp only [Act.put, List.setIfInBounds_toArray, List.set_cons_zero, List.set_cons_succ, i64_w, i32_w]; try rfl))
      iterate 2 (refine seq_p (v := ?_) (a' := ?_) rfl rfl (Or.inl ⟨by rfl, ?_⟩) ?_ ?_; rotate_left; (· intro w'; go_simp; with_reducible rfl); rotate_left; (· show Act.put _ (some _) _ = _; simp only [Act.put, List.setIfInBounds_toArray, List.set_cons_zero, List.set_cons_succ, i64_w, i32_w]; try rfl))
      (refine seq_t (v := ?_) (a' := ?_) rfl rfl (Or.inl ⟨by rfl, ?_⟩) ?_ ?_; rotate_left; (· rintro w' ⟨s0, s1, s2, s3⟩; go_simp; with_reducible rfl); rotate_left; (· show Act.put _ (some _) _ = _; simp only [Act.put, List.setIfInBounds_toArray, List.set_cons_zero, List.set_cons_succ, i64_w, i32_w]; try rfl))
      refine seq_call rfl rfl Try.func161 (by kernel_rfl) rfl #[.slice Ac1 (prn.length - pri.length) (cpn - pri.length), .string key] (by rfl) rfl (by (try simp only [List.map_toArray, List.map_cons, List.map_nil]); first | done | rfl) ?_
      with_reducible refine (HC1.out _ key false (R_seen Td.out.rp).2 HBL.out).mono ?_
      rintro e wn ⟨rfl, hbn⟩
      have Td_ := Aside0.mk (Td.out.below hbn)
      have Bd_ := Aside0.mk (blk_below Bd.out hbn)
      have Rd1_ := Aside0.mk (Kd.R_below Rd1.out hbn)
      have Rd3_ := Aside0.mk (And.intro (Kd.R_below Rd3.out.1 hbn) Rd3.out.2)
      have Fd_ := Aside0.mk (Fd.out.below hbn)
      clear Td Bd Rd1 Rd3 Fd hbn
      have Td := Td_
      have Bd := Bd_
      have Rd1 := Rd1_
      have Rd3 := Rd3_
      have Fd := Fd_
      clear Td_ Bd_ Rd1_ Rd3_ Fd_
      refine ⟨_, rfl, ⟨(blk_cell Td.out.bT 5).trans rfl, (blk_cell Td.out.bT 3).trans rfl, (blk_cell Bd.out 1).trans rfl, (seen_str Rd1.out hlk).trans (by rw [HKEY2.out])⟩, (fun hHeld => ?_)⟩
      refine seq_norm (a' := ?_) ?_ ?_; rotate_left; (· show Act.put _ (some 138) _ = _; simp only [Act.put, List.setIfInBounds_toArray, List.set_cons_zero, List.set_cons_succ, i64_w, i32_w]; try rfl)
      iterate 6 (refine seq_p (v := ?_) (a' := ?_) rfl rfl (Or.inl ⟨by rfl, ?_⟩) ?_ ?_; rotate_left; (· intro w'; go_simp; with_reducible rfl); rotate_left; (· show Act.put _ (some _) _ = _; simp only [Act.put, List.setIfInBounds_toArray, List.set_cons_zero, List.set_cons_succ, i64_w, i32_w]; try rfl))
      (refine seq_t (v := ?_) (a' := ?_) rfl rfl (Or.inl ⟨by rfl, ?_⟩) ?_ ?_; rotate_left; (· rintro w' ⟨s0, s1, s2, s3⟩; go_simp; with_reducible rfl); rotate_left; (· show Act.put _ (some _) _ = _; simp only [Act.put, List.setIfInBounds_toArray, List.set_cons_zero, List.set_cons_succ, i64_w, i32_w]; try rfl))
      iterate 4 (refine seq_p (v := ?_) (a' := ?_) rfl rfl (Or.inl ⟨by rfl, ?_⟩) ?_ ?_; rotate_left; (· intro w'; go_simp; with_reducible rfl); rotate_left; (· show Act.put _ (some _) _ = _; simp only [Act.put, List.setIfInBounds_toArray, List.set_cons_zero, List.set_cons_succ, i64_w, i32_w]; try rfl))
      (refine seq_t (v := ?_) (a' := ?_) rfl rfl (Or.inl ⟨by rfl, ?_⟩) ?_ ?_; rotate_left; (· rintro w' ⟨s0, s1, s2, s3⟩; go_simp; with_reducible rfl); rotate_left; (· show Act.put _ (some _) _ = _; simp only [Act.put, List.setIfInBounds_toArray, List.set_cons_zero, List.set_cons_succ, i64_w, i32_w]; try rfl))
      iterate 2 (refine seq_p (v := ?_) (a' := ?_) rfl rfl (Or.inl ⟨by rfl, ?_⟩) ?_ ?_; rotate_left; (· intro w'; go_simp; with_reducible rfl); rotate_left; (· show Act.put _ (some _) _ = _; simp only [Act.put, List.setIfInBounds_toArray, List.set_cons_zero, List.set_cons_succ, i64_w, i32_w]; try rfl))
      (refine seq_t (v := ?_) (a' := ?_) rfl rfl (Or.inl ⟨by rfl, ?_⟩) ?_ ?_; rotate_left; (· rintro w' ⟨s0, s1, s2, s3⟩; go_simp; with_reducible rfl); rotate_left; (· show Act.put _ (some _) _ = _; simp only [Act.put, List.setIfInBounds_toArray, List.set_cons_zero, List.set_cons_succ, i64_w, i32_w]; try rfl))
      refine seq_call rfl rfl Try.func162 (by kernel_rfl) rfl #[.slice Ac2 (pri.length - pr.length) (cpn - pr.length), .string key] (by rfl) rfl (by (try simp only [List.map_toArray, List.map_cons, List.map_nil]); first | done | rfl) ?_
      with_reducible refine (HC2.out _ key fr (R_seen Td.out.rp).2 HFR.out).mono ?_
      rintro e wn ⟨rfl, hbn⟩
      have Td_ := Aside0.mk (Td.out.below hbn)
      have Bd_ := Aside0.mk (blk_below Bd.out hbn)
      have Rd1_ := Aside0.mk (Kd.R_below Rd1.out hbn)
      have Rd3_ := Aside0.mk (And.intro (Kd.R_below Rd3.out.1 hbn) Rd3.out.2)
      have Fd_ := Aside0.mk (Fd.out.below hbn)
      clear Td Bd Rd1 Rd3 Fd hbn
      have Td := Td_
      have Bd := Bd_
      have Rd1 := Rd1_
      have Rd3 := Rd3_
      have Fd := Fd_
      clear Td_ Bd_ Rd1_ Rd3_ Fd_
      refine ⟨_, rfl, ⟨(blk_cell Td.out.bT 5).trans rfl, (blk_cell Td.out.bT 3).trans rfl, (blk_cell Bd.out 1).trans rfl, (seen_str Rd1.out hlk).trans (by rw [HKEY2.out])⟩, (fun hHeld => ?_)⟩
      refine seq_norm (a' := ?_) ?_ ?_; rotate_left; (· show Act.put _ (some 154) _ = _; simp only [Act.put, List.setIfInBounds_toArray, List.set_cons_zero, List.set_cons_succ, i64_w, i32_w]; try rfl)
      iterate 4 (refine seq_p (v := ?_) (a' := ?_) rfl rfl (Or.inl ⟨by rfl, ?_⟩) ?_ ?_; rotate_left; (· intro w'; go_simp; with_reducible rfl); rotate_left; (· show Act.put _ (some _) _ = _; simp only [Act.put, List.setIfInBounds_toArray, List.set_cons_zero, List.set_cons_succ, i64_w, i32_w]; try rfl))
      refine seq_l rfl rfl (fun K hK => ?_)
      have hs1 : wn.cell? ⟨g, 5, none⟩ = some (.bool true) := (blk_cell Td.out.bT 5).trans rfl
      have hf1 := blk_frozen Td.out.bT 5
      refine skip_ (w1 := ?_) (by rfl) rfl ?_ ?_
      rotate_left
      ·go_simp
       rfl
      refine hK.out _ _ ?_
      clear hK K
      refine seq_done ?_
      clear hs1 hf1 hHeld
      have T7 := Aside0.mk (set1 (x := !fr) (layI _ _) (by decide) Td.out)
      have F7 := Aside0.mk (Fd.out.set 5 (.bool (!fr)))
      have B7 := Aside0.mk (blk_far (p := ⟨g, 5, none⟩) Bd.out (blk_ne Bd.out Td.out.bT (by decide)) (.bool (!fr)))
      have R17 := Aside0.mk (Kd.R_set Rd1.out Td.out.bT (by decide) 5 (.bool (!fr)))
      have R37 := Aside0.mk (And.intro (Kd.R_set Rd3.out.1 Td.out.bT (by decide) 5 (.bool (!fr))) Rd3.out.2)
      clear Td Bd Rd1 Rd3 Fd hcut1 hcut2 HC1 HC2
      generalize hwx : wn.setCell ⟨g, 5, none⟩ _ = w7 at T7 F7 B7 R17 R37 ⊢
      clear hwx
      go_wp2
      have hw : wrap64 ((kk : Int) + 1) = ((kk + 1 : Nat) : Int) := by unfold wrap64; omega
      have HW := Aside0.mk hw
      clear hw
      go_roundg (kids.length - (kk + 1))
      case measure => omega
      case rel =>
       have hml := HLK.out.2
       have hln := HLN.out
       have e1 : (kk + 1) * N = kk * N + N := Nat.succ_mul _ _
       have e2 : (kk + 1) * (4 * N) = kk * (4 * N) + 4 * N := Nat.succ_mul _ _
       exact ⟨kk + 1, ⟨pgn, prn, dpn, !fr, false⟩, Agn, cgn, Apn, cpn, Adn, cdn, by omega, by omega, by first | rfl | exact congrArg (Value.int .i64) HW.out, T7, B7, R17, R37, F7, ⟨by have := HE.out; simpa using this⟩, ⟨rfl, by show pr.length ≤ prn.length; omega, by show pgn.length ≤ _; rw [e1]; omega, by show prn.length ≤ _; rw [e2]; omega, by show dpn.length ≤ _; rw [e1]; omega⟩⟩
  ·have hltz : ¬ (kk : Int) < (kids.length : Int) := by omega
   have : kk = kids.length := by omega
   subst this
   have HE := Aside0.mk (show sti = RES by rw [← HRK.out, Nat.sub_self, dnKids])
   go_wp2
   refine bodyPost_ret (results_list (rs := []) (vs := []) rfl (by simp) Vals.nil) rfl ?_
   rw [← HE.out]
   have TK' := TK.out
   rw [← HLK.out.1] at TK'
   exact ⟨rfl, _, _, _, _, _, _, TK', HFK.out⟩
def RnLen (rn : Int → S68 × Bool) : Prop := ∀ page, (rn page).2 = true → (rn page).1.f1.length ≤ 4 ∧ ((rn page).1.f0 = false → (rn page).1.f3.length = (rn page).1.f1.length)
theorem RnI.len {pages : List ByteArray} {late : List S189} {rn : Int → S68 × Bool} (h : RnI pages late rn) : RnLen rn := by
 intro page hok
 obtain ⟨s, _, _, hc⟩ := h page
 rcases hc with hc | hc
 ·obtain ⟨hshape, _⟩ := (nodeOk_iff _ _ _ _).1 hc.2
  exact ⟨hshape.1.2, fun hl => (hshape.2.2 hl).1⟩
 ·rw [hc.1] at hok; cases hok
theorem kids_len {rn : Int → S68 × Bool} {f : Nat} {deep : Int} {keys : List ByteArray} {kids : List Int} {first : Nat}
  (ih : ∀ st page deep, (dn rn f st page deep).pg.length ≤ st.pg.length + nf f ∧ st.pr.length ≤ (dn rn f st page deep).pr.length ∧ (dn rn f st page deep).pr.length ≤ st.pr.length + 4 * nf f ∧ (dn rn f st page deep).dp.length ≤ st.dp.length + nf f) :
  ∀ (n i : Nat) (st : TSt), (dnKids (fun s k => dn rn f s k deep) keys kids first i n st).pg.length ≤ st.pg.length + n * nf f ∧ st.pr.length ≤ (dnKids (fun s k => dn rn f s k deep) keys kids first i n st).pr.length ∧ (dnKids (fun s k => dn rn f s k deep) keys kids first i n st).pr.length ≤ st.pr.length + n * (4 * nf f) ∧ (dnKids (fun s k => dn rn f s k deep) keys kids first i n st).dp.length ≤ st.dp.length + n * nf f
 | 0, i, st => by simp [dnKids]
 | n + 1, i, st => by
  have h1 := ih st (kids.getD i 0) deep
  have e1 : (n + 1) * nf f = n * nf f + nf f := Nat.succ_mul _ _
  have e2 : (n + 1) * (4 * nf f) = n * (4 * nf f) + 4 * nf f := Nat.succ_mul _ _
  rw [e1, e2]
  simp only [dnKids]
  split
  ·omega
  ·have h2 := kids_len (keys := keys) (kids := kids) (first := first) (deep := deep) ih n (i + 1) ⟨(dn rn f st (kids.getD i 0) deep).pg, (dn rn f st (kids.getD i 0) deep).pr, (dn rn f st (kids.getD i 0) deep).dp,
    (dn rn f st (kids.getD i 0) deep).order && !(((dn rn f st (kids.getD i 0) deep).pr.drop st.pr.length).any (belowK (keys.getD i ByteArray.empty))) && !((((dn rn f st (kids.getD i 0) deep).pr.take st.pr.length).drop first).any fun x => !(belowK (keys.getD i ByteArray.empty) x)), (dn rn f st (kids.getD i 0) deep).bad⟩
   simp only at h2
   omega
theorem dn_len {rn : Int → S68 × Bool} (hl : RnLen rn) : ∀ (f : Nat) (st : TSt) (page deep : Int), (dn rn f st page deep).pg.length ≤ st.pg.length + nf f ∧ st.pr.length ≤ (dn rn f st page deep).pr.length ∧ (dn rn f st page deep).pr.length ≤ st.pr.length + 4 * nf f ∧ (dn rn f st page deep).dp.length ≤ st.dp.length + nf f
 | 0, st, page, deep => by simp [dn, nf]
 | f + 1, st, page, deep => by
  simp only [dn, nf]
  split
  ·simp only; omega
  ·rename_i hb
   have hok : (rn page).2 = true := by
    cases h : (rn page).2
    ·exact absurd (.inr (.inl h)) hb
    ·rfl
   obtain ⟨h1, h2⟩ := hl page hok
   split
   ·simp only [List.length_append, pairsTo_len, List.length_cons, List.length_nil]; omega
   ·rename_i hleaf
    have h3 := kids_len (keys := (rn page).1.f1) (kids := (rn page).1.f3) (first := st.pr.length) (deep := deep + 1) (dn_len hl f) (rn page).1.f3.length 0 ⟨st.pg ++ [page], st.pr, st.dp, st.order, st.bad⟩
    have h4 := h2 (by simpa using hleaf)
    have e1 : (rn page).1.f3.length * nf f ≤ 4 * nf f := Nat.mul_le_mul_right _ (by omega)
    have e2 : (rn page).1.f3.length * (4 * nf f) ≤ 4 * (4 * nf f) := Nat.mul_le_mul_right _ (by omega)
    simp only [List.length_append, List.length_cons, List.length_nil] at h3
    omega
theorem down_ok (AP : Option Addr) (cP : Nat) (pages : List ByteArray) (AL : Option Addr) (cL : Nat) (late : List S189) (w0 : World) (hP : Kd.C Kd.string w0 AP pages.length pages) (hcP : pages.length ≤ cP) (hL : Kd.C k189 w0 AL late.length late) (hcL : late.length ≤ cL) (rn : Int → S68 × Bool) (hrn : RnI pages late rn) (g : Nat) : ∀ (f : Nat) (st : TSt) (page deep : Int) (w : World) (Ag : Option Addr) (cg : Nat) (Ap : Option Addr) (cp : Nat) (Ad : Option Addr) (cd : Nat), deep + (f : Int) = 10 → 1 ≤ deep → st.pg.length + nf f ≤ 1000000 → st.pr.length + 4 * nf f ≤ 1000000 → st.dp.length + nf f ≤ 1000000 →
  TInv (cellsI (.slice AP pages.length cP) (.slice AL late.length cL)) 146 w0 w g (.slice Ag st.pg.length cg) (.slice Ap st.pr.length cp) (.slice Ad st.dp.length cd) st.order st.bad st.pg st.pr st.dp →
  Calls Try.prog 142 #[.pointer (some ⟨g, 0, none⟩), .int .i64 page, .int .i64 deep] w (DownPost (cellsI (.slice AP pages.length cP) (.slice AL late.length cL)) 146 w0 w g (.slice Ag st.pg.length cg) (.slice Ap st.pr.length cp) (.slice Ad st.dp.length cd) (dn rn f st page deep))
 | 0, st, page, deep, w, Ag, cg, Ap, cp, Ad, cd, hf, h1, l1, l2, l3, hT => by
  exact down_bad AP cP pages AL cL late w0 hP hcP hL hcL rn hrn g st page deep w Ag cg Ap cp Ad cd hT (.inr (.inr (.inl (by omega))))
 | f + 1, st, page, deep, w, Ag, cg, Ap, cp, Ad, cd, hf, h1, l1, l2, l3, hT => by
  simp only [nf] at l1 l2 l3
  rw [dn]
  split
  ·rename_i hb
   exact down_bad AP cP pages AL cL late w0 hP hcP hL hcL rn hrn g st page deep w Ag cg Ap cp Ad cd hT hb
  ·rename_i hb
   have hbad : st.bad = false := by
    cases h : st.bad
    ·rfl
    ·exact absurd (.inl h) hb
   have hok : (rn page).2 = true := by
    cases h : (rn page).2
    ·exact absurd (.inr (.inl h)) hb
    ·rfl
   have hd : deep ≤ 8 := by
    by_cases h : deep > 8
    ·exact absurd (.inr (.inr (.inl h))) hb
    ·omega
   have hcon : st.pg.contains page = false := by
    cases h : st.pg.contains page
    ·rfl
    ·exact absurd (.inr (.inr (.inr h))) hb
   cases hleaf : (rn page).1.f0
   ·rw [if_neg (by simp)]
    exact down_branch AP cP pages AL cL late w0 hP hcP hL hcL rn hrn g st page deep w Ag cg Ap cp Ad cd hT f (nf f)
     (fun s' kid W Ag' cg' Ap' cp' Ad' cd' k1 k2 k3 k4 => down_ok AP cP pages AL cL late w0 hP hcP hL hcL rn hrn g f s' kid (deep + 1) W Ag' cg' Ap' cp' Ad' cd' (by omega) (by omega) k1 k2 k3 k4)
     (fun s' kid => dn_len hrn.len f s' kid (deep + 1)) hbad hok h1 hd hcon hleaf (by omega) (by omega) (by omega)
   ·rw [if_pos rfl]
    exact down_leaf AP cP pages AL cL late w0 hP hcP hL hcL rn hrn g st page deep w Ag cg Ap cp Ad cd hT hbad hok hd hcon hleaf (by omega) (by omega) (by omega)
def st0 : TSt := ⟨[], [], [], true, false⟩
def tof (rn : Int → S68 × Bool) (root : Int) : TSt := if root = 0 then st0 else dn rn 9 st0 root 1
theorem nil_pr (W : World) (b : Nat) : Kd.R k140 140 W b (fun _ => True) (.slice none 0 0) [] := Kd.R_nil _ _ _ _ _
theorem nil_int (W : World) (b : Nat) : Kd.R (Kd.int .i64) 3 W b (fun _ => True) (.slice none 0 0) [] := Kd.R_nil _ _ _ _ _
theorem treeOf_calls (AP : Option Addr) (cP : Nat) (pages : List ByteArray) (AL : Option Addr) (cL : Nat) (late : List S189) (w : World) (hP : Kd.C Kd.string w AP pages.length pages) (hcP : pages.length ≤ cP) (hL : Kd.C k189 w AL late.length late) (hcL : late.length ≤ cL) (rn : Int → S68 × Bool) (hrn : RnI pages late rn) (root : Int) :
  Calls Try.prog 99 #[.agg #[.slice AP pages.length cP, .slice AL late.length cL], .int .i64 root] w fun e w' => ∃ g Ag cg Ap cp Ad cd, e = .returned (.pointer (some ⟨g, 0, none⟩)) ∧
   TInv (cellsI (.slice AP pages.length cP) (.slice AL late.length cL)) 146 w w' g (.slice Ag (tof rn root).pg.length cg) (.slice Ap (tof rn root).pr.length cp) (.slice Ad (tof rn root).dp.length cd) (tof rn root).order (tof rn root).bad (tof rn root).pg (tof rn root).pr (tof rn root).dp := by
 have HP := Aside0.mk hP
 have HL := Aside0.mk hL
 have HRN := Aside0.mk hrn
 have T0 : TInv (cellsI (.slice AP pages.length cP) (.slice AL late.length cL)) 146 w ((w.alloc (.cells #[.slice AP pages.length cP, .slice AL late.length cL] 41)).alloc (.cells (cellsI (.slice AP pages.length cP) (.slice AL late.length cL) (.slice none 0 0) (.slice none 0 0) (.slice none 0 0) true false) 146)) (w.heap.size + 1) (.slice none 0 0) (.slice none 0 0) (.slice none 0 0) true false [] [] [] :=
  ⟨by simpa using blk_new (w.alloc (.cells #[.slice AP pages.length cP, .slice AL late.length cL] 41)) (.cells (cellsI (.slice AP pages.length cP) (.slice AL late.length cL) (.slice none 0 0) (.slice none 0 0) (.slice none 0 0) true false) 146), by omega, nil_int _ _, nil_pr _ _, nil_int _ _, fun k hk => by simp [Value.ownBlock] at hk, below_alloc (below_alloc (Below.refl _ _) _) _⟩
 have T := Aside0.mk T0
 clear hP hL hrn T0
 by_cases hr : root = 0
 ·subst hr
  have hst : tof rn 0 = st0 := if_pos rfl
  rw [hst]
  go_enter Try.func99, Try.ntmps99
  go_wp2
  go_ret
  exact ⟨_, _, _, _, _, _, _, rfl, T.out⟩
 ·have hst : tof rn root = dn rn 9 st0 root 1 := if_neg hr
  have hrb : (root != 0) = true := by simpa using hr
  obtain ⟨st, hs⟩ : ∃ z, dn rn 9 st0 root 1 = z := ⟨_, rfl⟩
  rw [hst]
  have HC := Aside0.mk (down_ok AP cP pages AL cL late w HP.out hcP HL.out hcL rn HRN.out (w.heap.size + 1) 9 st0 root 1 _ none 0 none 0 none 0 (by omega) (by omega) (by simp [nf, st0]) (by simp [nf, st0]) (by simp [nf, st0]) T.out)
  rw [hs] at HC ⊢
  clear hs hst
  go_enter Try.func99, Try.ntmps99
  go_wp2_with fail
  unfold cellsI at HC
  ((with_reducible refine (HC.out).mono ?_); rintro e w1 ⟨rfl, Ag, cg, Ap, cp, Ad, cd, T1, _⟩)
  go_wp2
  go_ret
  exact ⟨_, _, _, _, _, _, _, rfl, T1⟩
def okI (st : TSt) : Bool := !st.bad && st.order && ascPB st.pr && !(st.dp.any fun n => n != st.dp.getD 0 0)
def spec_l06In.l0 : Nat → List Int → Int → Int → Option (Bool)
 | 0, _, _, _ => none
 | k + 1, x0, x1, x5 => if x5 < (x0.length : Int) then (if 0 ≤ x5 then (if (rd x0 x5) = x1 then (some true) else (spec_l06In.l0 k x0 x1 (wrap64 (x5 + 1)))) else (none)) else (some false)
def spec_l06In.f (k : Nat) (l0 : List Int) (a1 : Int) : Option (Bool) := spec_l06In.l0 k l0 a1 0
theorem spec_l06In.mono_l : ∀ k, (∀ y0 y1 y2, LeO (spec_l06In.l0 k y0 y1 y2) (spec_l06In.l0 (k + 1) y0 y1 y2))
 | 0 => fun _ _ _ r h => by simp [spec_l06In.l0] at h
 | k + 1 => by
  have ih0 := spec_l06In.mono_l k
  ·intro y0 y1 y2
   unfold spec_l06In.l0
   repeat' first
   | (with_reducible exact ih0 _ _ _)
   | (with_reducible exact LeO.refl _)
   | (with_reducible exact LeO.none _)
   | (with_reducible refine LeO.ite ?_ ?_)
   | (with_reducible refine LeO.bind ?_ (fun _ => ?_))
   | exact ih0 _ _ _
theorem spec_l06In.mono : ∀ a0 a1 k, LeO (spec_l06In.f k a0 a1) (spec_l06In.f (k + 1) a0 a1) := by
 intro a0 a1 k
 have ih0 := spec_l06In.mono_l k
 unfold spec_l06In.f
 repeat' first
   | (with_reducible exact ih0 _ _ _)
   | (with_reducible exact LeO.refl _)
   | (with_reducible exact LeO.none _)
   | (with_reducible refine LeO.ite ?_ ?_)
   | (with_reducible refine LeO.bind ?_ (fun _ => ?_))
   | exact ih0 _ _ _
theorem spec_l06In.calls (k : Nat) (A0 : Option Addr) (c0 : Nat) (l0 : List Int) (a1 : Int) (r : Bool) (w : World) (hr0 : Kd.C (Kd.int .i64) w A0 l0.length l0) (hc0 : l0.length ≤ c0) (h : spec_l06In.f k l0 a1 = some r) :
  Calls Try.prog 77 #[.slice A0 l0.length c0, .int .i64 a1] w fun e w' => e = .returned (.bool r) ∧ Drawn0 w w' := by
 have HR0 := Aside0.mk hr0
 have HC0 := Aside0.mk hc0
 clear hr0 hc0
 have H : (spec_l06In.l0 k l0 a1 0) = some r := h
 clear h
 have H' := Aside0.mk H
 clear H
 go_enter Try.func77, Try.ntmps77
 go_wp2
 go_loopg [5] k (fun kq v5 w' => ∃ (x5_1 : Int), v5 = .int .i64 x5_1 ∧ Aside0 (spec_l06In.l0 kq l0 a1 x5_1 = some r) ∧ Aside0 (kq ≤ k) ∧ Drawn0 w w')
 case atStart => exact ⟨(0), (by first | rfl | (simp; done) | (simp [*]; done)), H', ⟨Nat.le_refl _⟩, by repeat (first | exact Drawn0.refl _ | apply Drawn0.step)⟩
 case round =>
  clear H'
  obtain ⟨x5_1, rfl, HA, HK1, ⟨m1, rfl⟩⟩ := hrel
  cases gk with
  | zero => exact absurd HA.out (by simp [spec_l06In.l0])
  | succ k1 =>
   have H := HA.out
   clear HA
   simp only [spec_l06In.l0] at H
   by_cases c3 : x5_1 < (l0.length : Int)
   ·rw [if_pos c3] at H
    have c3b0 : decide (x5_1 < (l0.length : Int)) = true := decide_eq_true c3
    clear c3
    by_cases c4 : 0 ≤ x5_1
    ·rw [if_pos c4] at H
     have c4b0 : decide (0 ≤ x5_1) = true := decide_eq_true c4
     clear c4
     by_cases c5 : (rd l0 x5_1) = a1
     ·rw [if_pos c5] at H
      have c5b0 : ((rd l0 x5_1) == a1) = true := beq_iff_eq.mpr c5
      have c5b1 : ((rd l0 x5_1) != a1) = false := bne_eq_false_iff_eq.mpr c5
      clear c5
      obtain rfl := Option.some.inj H
      have p160 : 0 ≤ (x5_1 : Int) := of_decide_eq_true (by with_reducible assumption)
      have q160 : x5_1 < (l0.length : Int) := of_decide_eq_true (by with_reducible assumption)
      obtain ⟨ad160, e160, hx160_0⟩ := Kd.at_int HR0.out x5_1 p160 q160
      cases e160
      replace p160 := eq_true p160
      replace q160 := eq_true q160
      go_wp2
      go_ret
      exact ⟨by first | rfl | (simp; done) | (simp [*]; done), by repeat (first | exact Drawn0.refl _ | apply Drawn0.step)⟩
     ·rw [if_neg c5] at H
      have c5b0 : ((rd l0 x5_1) == a1) = false := beq_eq_false_iff_ne.mpr c5
      have c5b1 : ((rd l0 x5_1) != a1) = true := bne_iff_ne.mpr c5
      have H' := Aside0.mk H
      clear H
      have p160 : 0 ≤ (x5_1 : Int) := of_decide_eq_true (by with_reducible assumption)
      have q160 : x5_1 < (l0.length : Int) := of_decide_eq_true (by with_reducible assumption)
      obtain ⟨ad160, e160, hx160_0⟩ := Kd.at_int HR0.out x5_1 p160 q160
      cases e160
      replace p160 := eq_true p160
      replace q160 := eq_true q160
      go_wp2
      go_roundg k1
      case measure => have := HK1.out; omega
      case rel => exact ⟨(wrap64 (x5_1 + 1)), (by first | rfl | (simp; done) | (simp [*]; done)), H', ⟨by have := HK1.out; omega⟩, by repeat (first | exact Drawn0.refl _ | apply Drawn0.step)⟩
    ·rw [if_neg c4] at H
     exact absurd H (by simp)
   ·rw [if_neg c3] at H
    have c3b0 : decide (x5_1 < (l0.length : Int)) = false := decide_eq_false c3
    clear c3
    obtain rfl := Option.some.inj H
    go_wp2
    go_ret
    exact ⟨by first | rfl | (simp; done) | (simp [*]; done), by repeat (first | exact Drawn0.refl _ | apply Drawn0.step)⟩
def spec_ReadPage.l0 : Nat → Int → Int → List ByteArray → List (S189) → Option (ByteArray)
 | 0, _, _, _, _ => none
 | k + 1, x1, x5, x162000, x162001 => if x5 ≥ 0 then (if 0 ≤ x5 then (if x5 < (x162001.length : Int) then (if ((rd_T189 x162001 x5).f0) = x1 then (some ((rd_T189 x162001 x5).f1)) else (spec_ReadPage.l0 k x1 (wrap64 (x5 - 1)) x162000 x162001)) else (none)) else (none)) else (if 0 ≤ x1 then (if x1 < (x162000.length : Int) then (some (rdOf ByteArray.empty x162000 x1)) else (none)) else (none))
def spec_ReadPage.f (k : Nat) (l0_0 : List ByteArray) (l0_1 : List (S189)) (a1 : Int) : Option (ByteArray) := (spec_l01In.f a1 0 (wrap64 ((l0_0.length : Int) - 1))).bind fun t162 => (if t162 = true then (spec_ReadPage.l0 k a1 (wrap64 ((l0_1.length : Int) - 1)) l0_0 l0_1) else (some (⟨#[]⟩ : ByteArray)))
theorem spec_ReadPage.mono_l : ∀ k, (∀ y0 y1 y2 y3, LeO (spec_ReadPage.l0 k y0 y1 y2 y3) (spec_ReadPage.l0 (k + 1) y0 y1 y2 y3))
 | 0 => fun _ _ _ _ r h => by simp [spec_ReadPage.l0] at h
 | k + 1 => by
  have ih0 := spec_ReadPage.mono_l k
  ·intro y0 y1 y2 y3
   unfold spec_ReadPage.l0
   repeat' first
   | (with_reducible exact ih0 _ _ _ _)
   | (with_reducible exact LeO.refl _)
   | (with_reducible exact LeO.none _)
   | (with_reducible refine LeO.ite ?_ ?_)
   | (with_reducible refine LeO.bind ?_ (fun _ => ?_))
   | exact ih0 _ _ _ _
theorem spec_ReadPage.mono : ∀ a0 a1 a2 k, LeO (spec_ReadPage.f k a0 a1 a2) (spec_ReadPage.f (k + 1) a0 a1 a2) := by
 intro a0 a1 a2 k
 have ih0 := spec_ReadPage.mono_l k
 unfold spec_ReadPage.f
 repeat' first
   | (with_reducible exact ih0 _ _ _ _)
   | (with_reducible exact LeO.refl _)
   | (with_reducible exact LeO.none _)
   | (with_reducible refine LeO.ite ?_ ?_)
   | (with_reducible refine LeO.bind ?_ (fun _ => ?_))
   | exact ih0 _ _ _ _
theorem spec_ReadPage.calls (k : Nat) (A0_0 : Option Addr) (c0_0 : Nat) (l0_0 : List ByteArray) (A0_1 : Option Addr) (c0_1 : Nat) (l0_1 : List (S189)) (a1 : Int) (r : ByteArray) (w : World) (hr0_0 : Kd.C Kd.string w A0_0 l0_0.length l0_0) (hc0_0 : l0_0.length ≤ c0_0) (hr0_1 : Kd.C k189 w A0_1 l0_1.length l0_1) (hc0_1 : l0_1.length ≤ c0_1) (h : spec_ReadPage.f k l0_0 l0_1 a1 = some r) :
  Calls Try.prog 159 #[.agg #[.slice A0_0 l0_0.length c0_0, .slice A0_1 l0_1.length c0_1], .int .i64 a1] w fun e w' => e = .returned (.string r) ∧ Below w.heap.size w w' := by
 have hu41 := Try.underlying41
 have HR0_0 := Aside0.mk hr0_0
 have HC0_0 := Aside0.mk hc0_0
 clear hr0_0 hc0_0
 have HR0_1 := Aside0.mk hr0_1
 have HC0_1 := Aside0.mk hc0_1
 clear hr0_1 hc0_1
 have HB := Aside0.mk (Below.refl w.heap.size w)
 have H : ((spec_l01In.f a1 0 (wrap64 ((l0_0.length : Int) - 1))).bind fun t162 => (if t162 = true then (spec_ReadPage.l0 k a1 (wrap64 ((l0_1.length : Int) - 1)) l0_0 l0_1) else (some (⟨#[]⟩ : ByteArray)))) = some r := h
 clear h
 replace H := Option.bind_eq_some_iff.mp H
 obtain ⟨t162, A30, H⟩ := H
 replace H : (if t162 = true then (spec_ReadPage.l0 k a1 (wrap64 ((l0_1.length : Int) - 1)) l0_0 l0_1) else (some (⟨#[]⟩ : ByteArray))) = some r := H
 have A3 := Aside0.mk A30
 clear A30
 by_cases c4 : t162 = true
 ·subst c4
  have H1 : (spec_ReadPage.l0 k a1 (wrap64 ((l0_1.length : Int) - 1)) l0_0 l0_1) = some r := by rw [if_pos rfl] at H; exact H
  clear H
  have H := H1
  clear H1
  have H' := Aside0.mk H
  clear H
  go_enter Try.func159, Try.ntmps159
  go_wp2_with (first | ((with_reducible refine gate_dst (N := 2) rfl ?_); refine box_event ?hg (N := 2) ?hd (cs := #[.slice A0_0 l0_0.length c0_0, .slice A0_1 l0_1.length c0_1]) (t := 41) ?hr ?_; (case hd => rfl); (case hg => rfl); (case hr => first | (go_simp; done) | (go_simp; rfl)); intro gb161 hg w5 hbox hb; have n0_ := Aside0.mk (below_step (by repeat (first | (with_reducible first | exact HB.out | apply below_alloc | apply pw_below_drewN | apply below_drew1) | exact HB.out)) hb); have n1_ := Aside0.mk (hbox); have n2_ := Aside0.mk ((by rw [hg]; exact (below_size (by repeat (first | (with_reducible first | exact HB.out | apply below_alloc | apply pw_below_drewN | apply below_drew1) | exact HB.out))) : w.heap.size ≤ gb161)); have n3_ := Aside0.mk ((by rw [hg]; exact (below_size (by repeat (first | (with_reducible first | exact HB.out | apply below_alloc | apply pw_below_drewN | apply below_drew1) | exact HB.out))) : w.heap.size ≤ gb161)); clear HB; have HB := n0_; have BK161 := n1_; have GW161 := n2_; have GE161 := n3_; clear n0_ n1_ n2_ n3_; clear hb hbox hg; have hcz6_0 : w5.cell? ⟨gb161, 0, none⟩ = some (.slice A0_0 l0_0.length c0_0) := (blk_cell BK161.out 0).trans rfl; have hcz6_1 : w5.cell? ⟨gb161, 1, none⟩ = some (.slice A0_1 l0_1.length c0_1) := (blk_cell BK161.out 1).trans rfl; have hfz6_0 := blk_frozen BK161.out 0; have hfz6_1 := blk_frozen BK161.out 1) | ((with_reducible refine gate_callee (f := 76) rfl ?_); refine goesL_ (some 11) rfl rfl Try.func76 (by kernel_rfl) rfl #[.int .i64 a1, .int .i64 0, .int .i64 (wrap64 ((l0_0.length : Int) - 1))] rfl (by (try simp only [List.map_toArray, List.map_cons, List.map_nil]); first | done | rfl | (simp only [List.length_drop, List.length_take]; rfl)) ?_; (with_reducible refine (spec_l01In.calls a1 0 (wrap64 ((l0_0.length : Int) - 1)) true _ A3.out).mono ?_); rintro e w' ⟨rfl, ⟨nd, rfl⟩⟩; refine ⟨_, rfl, ?_⟩))
  go_loopg [5] k (fun kq v5 w' => ∃ (x5_1 : Int), v5 = .int .i64 x5_1 ∧ Aside0 (spec_ReadPage.l0 kq a1 x5_1 l0_0 l0_1 = some r) ∧ Aside0 (kq ≤ k) ∧ Aside0 (w'.heap[gb161]? = some (.cells #[(.slice A0_0 l0_0.length c0_0), (.slice A0_1 l0_1.length c0_1)] 41 (0, 0))) ∧ Aside0 (Below w.heap.size w w'))
  case atStart => exact ⟨(wrap64 ((l0_1.length : Int) - 1)), (by first | rfl | (simp; done) | (simp [*]; done)), H', ⟨Nat.le_refl _⟩, ⟨by (with_reducible repeat (first | refine blk_drewN ?_ _ | refine blk_drew ?_ | refine blk_alloc ?_ _)); exact BK161.out⟩, ⟨by repeat (first | (with_reducible first | exact HB.out | apply below_alloc | apply pw_below_drewN | apply below_drew1 | refine below_set ?_ GE161.out) | exact HB.out)⟩⟩
  case round =>
   clear H'
   try clear c4
   try clear hcz6_0
   try clear hcz6_1
   try clear hfz6_0
   try clear hfz6_1
   obtain ⟨x5_1, rfl, HA, HK1, BK161, HB⟩ := hrel
   cases gk with
   | zero => exact absurd HA.out (by simp [spec_ReadPage.l0])
   | succ k1 =>
    have H := HA.out
    clear HA
    simp only [spec_ReadPage.l0] at H
    by_cases c7 : x5_1 ≥ 0
    ·rw [if_pos c7] at H
     have c7b0 : decide (0 ≤ x5_1) = true := decide_eq_true c7
     clear c7
     by_cases c8 : 0 ≤ x5_1
     ·rw [if_pos c8] at H
      have c8b0 : decide (0 ≤ x5_1) = true := decide_eq_true c8
      clear c8
      by_cases c9 : x5_1 < (l0_1.length : Int)
      ·rw [if_pos c9] at H
       have c9b0 : decide (x5_1 < (l0_1.length : Int)) = true := decide_eq_true c9
       clear c9
       by_cases c10 : ((rd_T189 l0_1 x5_1).f0) = a1
       ·rw [if_pos c10] at H
        have c10b0 : (((rd_T189 l0_1 x5_1).f0) == a1) = true := beq_iff_eq.mpr c10
        have c10b1 : (((rd_T189 l0_1 x5_1).f0) != a1) = false := bne_eq_false_iff_eq.mpr c10
        clear c10
        obtain rfl := Option.some.inj H
        have hcz11_0 : wr.cell? ⟨gb161, 0, none⟩ = some (.slice A0_0 l0_0.length c0_0) := (blk_cell BK161.out 0).trans rfl
        have hcz11_1 : wr.cell? ⟨gb161, 1, none⟩ = some (.slice A0_1 l0_1.length c0_1) := (blk_cell BK161.out 1).trans rfl
        have hfz11_0 := blk_frozen BK161.out 0
        have hfz11_1 := blk_frozen BK161.out 1
        have p163 : 0 ≤ (x5_1 : Int) := of_decide_eq_true (by with_reducible assumption)
        have q163 : x5_1 < (l0_1.length : Int) := of_decide_eq_true (by with_reducible assumption)
        obtain ⟨ad163, e163, hx163_0, hx163_1⟩ := at_T189 HR0_1.out x5_1 p163 q163
        cases e163
        replace hx163_0 := (HB.out.cell (World.block_lt_of_cell? w _ hx163_0)).trans hx163_0
        replace hx163_1 := (HB.out.cell (World.block_lt_of_cell? w _ hx163_1)).trans hx163_1
        replace p163 := eq_true p163
        replace q163 := eq_true q163
        have p164 : 0 ≤ (x5_1 : Int) := of_decide_eq_true (by with_reducible assumption)
        have q164 : x5_1 < (l0_1.length : Int) := of_decide_eq_true (by with_reducible assumption)
        obtain ⟨ad164, e164, hx164_0, hx164_1⟩ := at_T189 HR0_1.out x5_1 p164 q164
        obtain rfl : ad163 = ad164 := (by injection e164)
        replace hx164_0 := (HB.out.cell (World.block_lt_of_cell? w _ hx164_0)).trans hx164_0
        replace hx164_1 := (HB.out.cell (World.block_lt_of_cell? w _ hx164_1)).trans hx164_1
        replace p164 := eq_true p164
        replace q164 := eq_true q164
        go_wp2
        go_ret
        exact ⟨by first | rfl | (simp [errW_none, errW_some] <;> rfl) | (simp [*, errW_none, errW_some] <;> rfl), by repeat (first | (with_reducible first | exact HB.out | apply below_alloc | apply pw_below_drewN | apply below_drew1 | refine below_set ?_ GE161.out) | exact HB.out)⟩
       ·rw [if_neg c10] at H
        have c10b0 : (((rd_T189 l0_1 x5_1).f0) == a1) = false := beq_eq_false_iff_ne.mpr c10
        have c10b1 : (((rd_T189 l0_1 x5_1).f0) != a1) = true := bne_iff_ne.mpr c10
        have H' := Aside0.mk H
        clear H
        have hcz12_0 : wr.cell? ⟨gb161, 0, none⟩ = some (.slice A0_0 l0_0.length c0_0) := (blk_cell BK161.out 0).trans rfl
        have hcz12_1 : wr.cell? ⟨gb161, 1, none⟩ = some (.slice A0_1 l0_1.length c0_1) := (blk_cell BK161.out 1).trans rfl
        have hfz12_0 := blk_frozen BK161.out 0
        have hfz12_1 := blk_frozen BK161.out 1
        have p163 : 0 ≤ (x5_1 : Int) := of_decide_eq_true (by with_reducible assumption)
        have q163 : x5_1 < (l0_1.length : Int) := of_decide_eq_true (by with_reducible assumption)
        obtain ⟨ad163, e163, hx163_0, hx163_1⟩ := at_T189 HR0_1.out x5_1 p163 q163
        cases e163
        replace hx163_0 := (HB.out.cell (World.block_lt_of_cell? w _ hx163_0)).trans hx163_0
        replace hx163_1 := (HB.out.cell (World.block_lt_of_cell? w _ hx163_1)).trans hx163_1
        replace p163 := eq_true p163
        replace q163 := eq_true q163
        go_wp2
        go_roundg k1
        case measure => have := HK1.out; omega
        case rel => exact ⟨(wrap64 (x5_1 - 1)), (by first | rfl | (simp; done) | (simp [*]; done)), H', ⟨by have := HK1.out; omega⟩, ⟨by (with_reducible repeat (first | refine blk_drewN ?_ _ | refine blk_drew ?_ | refine blk_alloc ?_ _)); exact BK161.out⟩, ⟨by repeat (first | (with_reducible first | exact HB.out | apply below_alloc | apply pw_below_drewN | apply below_drew1 | refine below_set ?_ GE161.out) | exact HB.out)⟩⟩
      ·rw [if_neg c9] at H
       exact absurd H (by simp)
     ·rw [if_neg c8] at H
      exact absurd H (by simp)
    ·rw [if_neg c7] at H
     have c7b0 : decide (0 ≤ x5_1) = false := decide_eq_false c7
     clear c7
     by_cases c13 : 0 ≤ a1
     ·rw [if_pos c13] at H
      have c13b0 : decide (0 ≤ a1) = true := decide_eq_true c13
      clear c13
      by_cases c14 : a1 < (l0_0.length : Int)
      ·rw [if_pos c14] at H
       have c14b0 : decide (a1 < (l0_0.length : Int)) = true := decide_eq_true c14
       clear c14
       obtain rfl := Option.some.inj H
       have hcz15_0 : wr.cell? ⟨gb161, 0, none⟩ = some (.slice A0_0 l0_0.length c0_0) := (blk_cell BK161.out 0).trans rfl
       have hcz15_1 : wr.cell? ⟨gb161, 1, none⟩ = some (.slice A0_1 l0_1.length c0_1) := (blk_cell BK161.out 1).trans rfl
       have hfz15_0 := blk_frozen BK161.out 0
       have hfz15_1 := blk_frozen BK161.out 1
       have p165 : 0 ≤ (a1 : Int) := of_decide_eq_true (by with_reducible assumption)
       have q165 : a1 < (l0_0.length : Int) := of_decide_eq_true (by with_reducible assumption)
       obtain ⟨ad165, e165, hx165_0⟩ := Kd.at_string HR0_0.out a1 p165 q165
       cases e165
       replace hx165_0 := (HB.out.cell (World.block_lt_of_cell? w _ hx165_0)).trans hx165_0
       replace p165 := eq_true p165
       replace q165 := eq_true q165
       go_wp2
       go_ret
       exact ⟨by first | rfl | (simp [errW_none, errW_some] <;> rfl) | (simp [*, errW_none, errW_some] <;> rfl), by repeat (first | (with_reducible first | exact HB.out | apply below_alloc | apply pw_below_drewN | apply below_drew1 | refine below_set ?_ GE161.out) | exact HB.out)⟩
      ·rw [if_neg c14] at H
       exact absurd H (by simp)
     ·rw [if_neg c13] at H
      exact absurd H (by simp)
 ·replace c4 := Bool.eq_false_iff.mpr c4
  subst c4
  have H1 : (some (⟨#[]⟩ : ByteArray)) = some r := by rw [if_neg (show ¬ (false = true) by decide)] at H; exact H
  clear H
  have H := H1
  clear H1
  obtain rfl := Option.some.inj H
  go_enter Try.func159, Try.ntmps159
  go_wp2_with (first | ((with_reducible refine gate_dst (N := 2) rfl ?_); refine box_event ?hg (N := 2) ?hd (cs := #[.slice A0_0 l0_0.length c0_0, .slice A0_1 l0_1.length c0_1]) (t := 41) ?hr ?_; (case hd => rfl); (case hg => rfl); (case hr => first | (go_simp; done) | (go_simp; rfl)); intro gb161 hg w16 hbox hb; have n0_ := Aside0.mk (below_step (by repeat (first | (with_reducible first | exact HB.out | apply below_alloc | apply pw_below_drewN | apply below_drew1) | exact HB.out)) hb); have n1_ := Aside0.mk (hbox); have n2_ := Aside0.mk ((by rw [hg]; exact (below_size (by repeat (first | (with_reducible first | exact HB.out | apply below_alloc | apply pw_below_drewN | apply below_drew1) | exact HB.out))) : w.heap.size ≤ gb161)); have n3_ := Aside0.mk ((by rw [hg]; exact (below_size (by repeat (first | (with_reducible first | exact HB.out | apply below_alloc | apply pw_below_drewN | apply below_drew1) | exact HB.out))) : w.heap.size ≤ gb161)); clear HB; have HB := n0_; have BK161 := n1_; have GW161 := n2_; have GE161 := n3_; clear n0_ n1_ n2_ n3_; clear hb hbox hg; have hcz17_0 : w16.cell? ⟨gb161, 0, none⟩ = some (.slice A0_0 l0_0.length c0_0) := (blk_cell BK161.out 0).trans rfl; have hcz17_1 : w16.cell? ⟨gb161, 1, none⟩ = some (.slice A0_1 l0_1.length c0_1) := (blk_cell BK161.out 1).trans rfl; have hfz17_0 := blk_frozen BK161.out 0; have hfz17_1 := blk_frozen BK161.out 1) | ((with_reducible refine gate_callee (f := 76) rfl ?_); refine goesL_ (some 11) rfl rfl Try.func76 (by kernel_rfl) rfl #[.int .i64 a1, .int .i64 0, .int .i64 (wrap64 ((l0_0.length : Int) - 1))] rfl (by (try simp only [List.map_toArray, List.map_cons, List.map_nil]); first | done | rfl | (simp only [List.length_drop, List.length_take]; rfl)) ?_; (with_reducible refine (spec_l01In.calls a1 0 (wrap64 ((l0_0.length : Int) - 1)) false _ A3.out).mono ?_); rintro e w' ⟨rfl, ⟨nd, rfl⟩⟩; refine ⟨_, rfl, ?_⟩))
  go_ret
  exact ⟨by first | rfl | (simp [errW_none, errW_some] <;> rfl) | (simp [*, errW_none, errW_some] <;> rfl), by repeat (first | (with_reducible first | exact HB.out | apply below_alloc | apply pw_below_drewN | apply below_drew1 | refine below_set ?_ GE161.out) | exact HB.out)⟩
end Go.Proofs.Ytapholbdjccapaa.PFnExactTreeOk
