import Derived.Test.YtapholbdjccapaaTD11
import Derived.Sort.OwnSortedInts
import Derived.ProofKit
import Derived.OpenShut
import Derived.Deep.Slices
set_option maxHeartbeats 64000000
set_option maxRecDepth 100000
set_option linter.unusedVariables false
set_option linter.unusedSimpArgs false
namespace Go.Proofs.Ytapholbdjccapaa.PFnExactTreeOk
open Go.RowKit Go.Proofs.YtapholbdjccapaaW.PrintWords Go.Proofs.YtapholbdjccapaaW.PrintLast Go.Proofs.YtapholbdjccapaaW.PrintMore
attribute [local go_sem] max2_int min2_int max_two min_two max_three min_three max_four min_four
def srt (l : List Int) : List Int := l.mergeSort fun x y => decide (x ≤ y)
theorem srt_len (l : List Int) : (srt l).length = l.length := List.length_mergeSort _
theorem srt_perm (l : List Int) : (srt l).Perm l := List.mergeSort_perm _ _
theorem srt_sorted (l : List Int) : (srt l).Pairwise (· ≤ ·) := by
 have := List.pairwise_mergeSort (le := fun x y : Int => decide (x ≤ y)) (by intro a b c; simp; omega) (by intro a b; simp; omega) l
 simpa [srt] using this
theorem sorted_unique : ∀ (a b : List Int), a.Pairwise (· ≤ ·) → b.Pairwise (· ≤ ·) → a.Perm b → a = b
 | [], b, _, _, h => (List.nil_perm.1 h).symm
 | x :: a, [], _, _, h => absurd (List.perm_nil.1 h) (by simp)
 | x :: a, y :: b, ha, hb, h => by
  have h1 : y ≤ x := by
   rcases List.mem_cons.1 (h.mem_iff.1 (List.mem_cons_self)) with e | e
   ·omega
   ·exact (List.pairwise_cons.1 hb).1 x e
  have h2 : x ≤ y := by
   rcases List.mem_cons.1 (h.mem_iff.2 (List.mem_cons_self)) with e | e
   ·omega
   ·exact (List.pairwise_cons.1 ha).1 y e
  have e : x = y := by omega
  subst e
  rw [sorted_unique a b (List.pairwise_cons.1 ha).2 (List.pairwise_cons.1 hb).2 (List.perm_cons _ |>.1 h)]
theorem srt_eq {l s : List Int} (hs : s.Pairwise (· ≤ ·)) (hp : s.Perm l) : s = srt l := sorted_unique s (srt l) hs (srt_sorted l) (hp.trans (srt_perm l).symm)
theorem sort_own {W : World} {base : Nat} {A : Option Addr} {c : Nat} {xs : List Int} (h : Kd.R (Kd.int .i64) 3 W base (fun _ => True) (.slice A xs.length c) xs) (hlen : xs.length ≤ 1000000) :
  Calls Try.prog 112 #[.slice A xs.length c] W fun e W' => e = .returned (.tuple #[]) ∧ Kd.R (Kd.int .i64) 3 W' base (fun _ => True) (.slice A xs.length c) (srt xs) ∧ W.grownBy W' (Value.slice A xs.length c).ownBlock := by
 by_cases hz : xs.length = 0
 ·have e0 : xs = [] := List.length_eq_zero_iff.1 hz
  subst e0
  refine (Try.slices_Sort_int_none A c W).mono ?_
  rintro e W' ⟨rfl, rfl⟩
  exact ⟨rfl, by rw [show srt ([] : List Int) = [] from by simp [srt]]; exact h, World.grownBy.refl _ _⟩
 ·have ho := Kd.own_of_R h
  rcases ho.2 with ⟨h0, h1⟩ | ⟨g, cap, cur, hv, hg, hh, hn, hcap, hsz, ht⟩
  ·have := h1
   simp_all
  ·cases hv
   have hH := Go.holds_of_blockI (ss := xs) hh (by simpa [encs] using ht)
   refine (Try.slices_Sort_int g 0 c xs W hH (blk_lt hh) (by omega)).mono ?_
   rintro e W' ⟨rfl, n, os, rfl⟩
   refine ⟨rfl, ?_, ?_⟩
   ·have ho2 := Go.ownsRow_sortedI (n := n) (os := os) (ts := srt xs) (srt_len xs) hg hh hn hcap hsz
    have := Kd.R_of_own (enc := Value.int .i64) (h1 := fun _ => rfl) (ok := fun _ => True) (xs := srt xs) (v := .slice (some ⟨g, 0, none⟩) xs.length c) (by rw [srt_len]; simpa [encs] using ho2) (fun _ _ => trivial)
    exact this
   ·exact Go.grownBy_sortedI _
def SortI (ys : List Int) (m : Nat) : Prop := ∀ a b, a < b → b < m → ys.getD a 0 ≤ ys.getD b 0
def InsI (ys : List Int) (i k : Nat) : Prop := k ≤ i ∧ (∀ a b, a < b → b ≤ i → a ≠ k → b ≠ k → ys.getD a 0 ≤ ys.getD b 0) ∧ ∀ b, k < b → b ≤ i → ys.getD k 0 ≤ ys.getD b 0
theorem ins_start {ys : List Int} {i : Nat} (h : SortI ys i) : InsI ys i i := ⟨Nat.le_refl _, fun a b h1 h2 h3 h4 => h a b h1 (by omega), fun b h1 h2 => by omega⟩
theorem ins_done {ys : List Int} {i k : Nat} (h : InsI ys i k) (hk : k = 0 ∨ ys.getD (k - 1) 0 ≤ ys.getD k 0) : SortI ys (i + 1) := by
 intro a b h1 h2
 obtain ⟨h0, ha, hb⟩ := h
 by_cases e1 : a = k
 ·subst e1; exact hb b h1 (by omega)
 ·by_cases e2 : b = k
  ·subst e2
   rcases hk with hk | hk
   ·omega
   ·by_cases e3 : a = b - 1
    ·subst e3; exact hk
    ·exact Int.le_trans (ha a (b - 1) (by omega) (by omega) (by omega) (by omega)) hk
  ·exact ha a b h1 (by omega) e1 e2
theorem getD_set (ys : List Int) (k j : Nat) (u : Int) (hk : k < ys.length) : (ys.set k u).getD j 0 = if j = k then u else ys.getD j 0 := by
 by_cases h : j = k
 ·subst h; simp [List.getD_eq_getElem?_getD, List.getElem?_set, hk]
 ·rw [if_neg h]; simp [List.getD_eq_getElem?_getD, List.getElem?_set, Ne.symm h]
theorem ins_swap {ys : List Int} {i k m : Nat} (h : InsI ys i k) (hm : k = m + 1) (hk : k < ys.length) (hgt : ys.getD k 0 < ys.getD m 0) : InsI ((ys.set k (ys.getD m 0)).set m (ys.getD k 0)) i m := by
 obtain ⟨h0, ha, hb⟩ := h
 have hg : ∀ j, ((ys.set k (ys.getD m 0)).set m (ys.getD k 0)).getD j 0 = if j = m then ys.getD k 0 else if j = k then ys.getD m 0 else ys.getD j 0 := fun j => by
  rw [getD_set _ _ _ _ (by rw [List.length_set]; omega), getD_set _ _ _ _ hk]
 refine ⟨by omega, fun a b h1 h2 h3 h4 => ?_, fun b h1 h2 => ?_⟩
 ·rw [hg, hg, if_neg h3, if_neg h4]
  by_cases e1 : a = k
  ·rw [if_pos e1, if_neg (by omega)]
   exact ha m b (by omega) h2 (by omega) (by omega)
  ·rw [if_neg e1]
   by_cases e2 : b = k
   ·rw [if_pos e2]
    exact ha a m (by omega) (by omega) e1 (by omega)
   ·rw [if_neg e2]
    exact ha a b h1 h2 e1 e2
 ·rw [hg, hg, if_pos rfl, if_neg (by omega)]
  by_cases e2 : b = k
  ·rw [if_pos e2]; omega
  ·rw [if_neg e2]
   exact hb b (by omega) h2
theorem swap_perm {ys : List Int} {k m : Nat} (hm : m < ys.length) (hk : k < ys.length) : ((ys.set k (ys.getD m 0)).set m (ys.getD k 0)).Perm ys := by
 have h := @List.set_set_perm _ ys k m hk hm
 rwa [List.getD_eq_getElem?_getD, List.getD_eq_getElem?_getD, List.getElem?_eq_getElem hk, List.getElem?_eq_getElem hm]
theorem srt_of {ys xs : List Int} (hp : ys.Perm xs) (hs : SortI ys ys.length) : ys = srt xs := srt_eq (List.pairwise_iff_getElem.2 fun a b ha hb h => by
 have := hs a b h hb
 rwa [List.getD_eq_getElem?_getD, List.getD_eq_getElem?_getD, List.getElem?_eq_getElem ha, List.getElem?_eq_getElem hb] at this) hp
theorem l07Sorted_calls (A : Option Addr) (c : Nat) (xs : List Int) (w : World) (hr : Kd.C (Kd.int .i64) w A xs.length xs) (hlen : xs.length ≤ 1000000) :
  Calls Try.prog 111 #[.slice A xs.length c] w fun e w' => ∃ B d, e = .returned (.slice B xs.length d) ∧ Kd.R (Kd.int .i64) 3 w' w.heap.size (fun _ => True) (.slice B xs.length d) (srt xs) ∧ Below w.heap.size w w' := by
 have HR := Aside0.mk hr
 have HL := Aside0.mk hlen
 clear hr hlen
 go_enter Try.func111, Try.ntmps111
 go_wp2_with (((with_reducible refine gate_builtin (b := .append) (xs := #[.tmp 7, .tmp 8]) rfl ?_); at_builtin; refine Kd.R_append_rows (Kd.int .i64) (w0 := w) (Rr := Kd.K (Kd.int .i64) (w.alloc (.cells #[] 3))) w.heap.size rfl (.tmp 7) (.tmp 8) 30 3 (.int .i64 0) 8 rfl Try.underlying30 info3d rfl (by decide) (by decide) (.slice (some ⟨w.heap.size, 0, none⟩) 0 0) [] xs A xs.length c (fun _ => True) (fun _ => False) rfl rfl ⟨fun _ _ => trivial, [], World.ownsRow_made w #[] 0 (Nat.le_refl _) (by decide) (by simp), Reps.none _ _⟩ (Kd.C_below HR.out (below_alloc (Below.refl _ _) _)) (fun _ _ hk => hk) (fun _ hk => hk.elim) (fun _ _ => trivial) (below_alloc (Below.refl _ _) _) (by simp) (by have := HL.out; simp only [List.length_nil]; omega) ?_; intro v1 w1 hR hB _ _; rw [List.nil_append] at hR; have R1 := Aside0.mk hR; have B1 := Aside0.mk hB; obtain ⟨B, d, rfl⟩ := Kd.R_slice hR; clear hR hB))
 go_loopg [4] xs.length (fun gg s4 wr => ∃ (i : Nat) (ys : List Int), 1 ≤ i ∧ (i ≤ xs.length ∨ i = 1) ∧ xs.length - i ≤ gg ∧ s4 = .int .i64 i ∧ Aside0 (Kd.R (Kd.int .i64) 3 wr w.heap.size (fun _ => True) (.slice B xs.length d) ys) ∧ Aside0 (ys.Perm xs ∧ SortI ys i) ∧ Aside0 (Below w.heap.size w wr))
 case atStart => exact ⟨1, xs, by omega, .inr rfl, by omega, rfl, R1, ⟨List.Perm.refl _, fun a b h1 h2 => by omega⟩, B1⟩
 case round =>
  clear R1 B1
  obtain ⟨i, ys, h1, h2, hg, rfl, RY, HQ, HB⟩ := hrel
  by_cases hlt : i < xs.length
  ·have hltz : (i : Int) < (xs.length : Int) := by omega
   obtain ⟨g, cap, hv, hbg, hgl, _⟩ := Kd.R_form RY.out (by have := HQ.out.1.length_eq; omega)
   obtain rfl : B = some ⟨g, 0, none⟩ := by injection hv
   have HG := Aside0.mk hbg
   have HI := Aside0.mk (And.intro h1 hlt)
   clear hv hbg hgl h2
   go_wp2
   go_loopg [5] xs.length (fun gg s5 wq => ∃ (k : Nat) (zs : List Int), k ≤ gg ∧ k ≤ i ∧ s5 = .int .i64 k ∧ Aside0 (Kd.R (Kd.int .i64) 3 wq w.heap.size (fun _ => True) (.slice (some ⟨g, 0, none⟩) xs.length d) zs) ∧ Aside0 (zs.Perm xs ∧ InsI zs i k) ∧ Aside0 (Below w.heap.size w wq))
   case atStart => exact ⟨i, ys, by omega, Nat.le_refl _, rfl, RY, ⟨HQ.out.1, ins_start HQ.out.2⟩, HB⟩
   case round =>
    clear RY HQ HB
    obtain ⟨k, zs, hk1, hk2, rfl, RZ, HZ, HB⟩ := hrel
    have HN := Aside0.mk HZ.out.1.length_eq
    by_cases hk0 : 0 < k
    ·obtain ⟨m, hm⟩ : ∃ m, k = m + 1 := ⟨k - 1, by omega⟩
     have hmz : (m : Int) < (xs.length : Int) := by omega
     have hkz : (k : Int) < (xs.length : Int) := by omega
     have hck : wr.cell? ⟨g, k, none⟩ = some (.int .i64 (zs.getD k 0)) := (Kd.R_celln 0 RZ.out (k : Int) (by omega) hkz).1
     have hcm : wr.cell? ⟨g, m, none⟩ = some (.int .i64 (zs.getD m 0)) := (Kd.R_celln 0 RZ.out (m : Int) (by omega) hmz).1
     obtain ⟨y2, hy2⟩ : ∃ y, zs.getD k 0 = y := ⟨_, rfl⟩
     obtain ⟨y1, hy1⟩ : ∃ y, zs.getD m 0 = y := ⟨_, rfl⟩
     rw [hy2] at hck
     rw [hy1] at hcm
     have HY := Aside0.mk (And.intro hy2 hy1)
     have HM := Aside0.mk hm
     have hw1 : wrap64 ((k : Int) - 1) = (m : Int) := by have := HL.out; unfold wrap64; omega
     have hw2 : IntKind.i64.wrap ((k : Int) - 1) = (m : Int) := (i64_w _).trans hw1
     have HW := Aside0.mk hw1
     have hk0z : (0 : Int) < (k : Int) := by omega
     have hfk : wr.frozen? ⟨g, k, none⟩ = false := (Kd.R_celln 0 RZ.out (k : Int) (by omega) hkz).2
     have hfm : wr.frozen? ⟨g, m, none⟩ = false := (Kd.R_celln 0 RZ.out (m : Int) (by omega) hmz).2
     have hne : m ≠ k := by omega
     clear hy1 hy2 hm
     by_cases hgt : y2 < y1
     ·have hgb : decide (y2 < y1) = true := decide_eq_true hgt
      go_wp2
      repeat (go_quiet (fail); try go_wp2)
      clear hw1 hw2
      go_roundg m
      case measure => have := HM.out; omega
      case rel => exact ⟨m, (zs.set k y1).set m y2, Nat.le_refl _, by have := HM.out; omega, rfl, ⟨(Kd.R_putg (Kd.R_putg (Kd.R_drewN RZ.out _) (k : Int) y1).1 (m : Int) y2).1⟩, ⟨by
        have h := swap_perm (ys := zs) (k := k) (m := m) (by rw [HN.out]; have := HM.out; have := HI.out.2; omega) (by rw [HN.out]; have := HI.out.2; omega)
        rw [HY.out.1, HY.out.2] at h
        exact h.trans HZ.out.1, by
        have h := ins_swap HZ.out.2 HM.out (by rw [HN.out]; have := HI.out.2; omega) (by rw [HY.out.1, HY.out.2]; exact hgt)
        rwa [HY.out.1, HY.out.2] at h⟩, ⟨below_set (below_set (pw_below_drewN HB.out _) HG.out) HG.out⟩⟩
     ·have hgb : decide (y2 < y1) = false := decide_eq_false hgt
      go_wp2
      repeat (go_quiet (fail); try go_wp2)
      clear hw1 hw2
      have HV := Aside0.mk (show InsI zs i k ∧ (k = 0 ∨ zs.getD (k - 1) 0 ≤ zs.getD k 0) from ⟨HZ.out.2, .inr (by rw [HY.out.1, show k - 1 = m by have := HM.out; omega, HY.out.2]; omega)⟩)
      go_roundg (xs.length - (i + 1))
      case measure => omega
      case rel => exact ⟨i + 1, zs, by omega, .inl (by have := HI.out.2; omega), by omega, by first | rfl | exact congrArg (Value.int .i64) (show wrap64 ((i : Int) + 1) = ((i + 1 : Nat) : Int) by have := HL.out; have := HI.out.2; unfold wrap64; omega), ⟨Kd.R_drewN RZ.out _⟩, ⟨HZ.out.1, ins_done HV.out.1 HV.out.2⟩, ⟨pw_below_drewN HB.out _⟩⟩
    ·obtain rfl : k = 0 := by omega
     go_wp2
     repeat (go_quiet (fail); try go_wp2)
     have HV := Aside0.mk (show InsI zs i 0 ∧ (0 = 0 ∨ zs.getD (0 - 1) 0 ≤ zs.getD 0 0) from ⟨HZ.out.2, .inl rfl⟩)
     go_roundg (xs.length - (i + 1))
     case measure => omega
     case rel => exact ⟨i + 1, zs, by omega, .inl (by have := HI.out.2; omega), by omega, by first | rfl | exact congrArg (Value.int .i64) (show wrap64 ((i : Int) + 1) = ((i + 1 : Nat) : Int) by have := HL.out; have := HI.out.2; unfold wrap64; omega), ⟨Kd.R_drewN RZ.out _⟩, ⟨HZ.out.1, ins_done HV.out.1 HV.out.2⟩, ⟨pw_below_drewN HB.out _⟩⟩
  ·have hltz : ¬ (i : Int) < (xs.length : Int) := by omega
   have he : ys = srt xs := srt_of HQ.out.1 (fun a b ha hb => HQ.out.2 a b ha (by have := HQ.out.1.length_eq; omega))
   have HE := Aside0.mk he
   clear he
   go_wp2
   go_ret
   exact ⟨B, d, rfl, by rw [← HE.out]; exact RY.out, HB.out⟩
theorem pg_empty (W : World) (base : Nat) (hb : base ≤ W.heap.size) : Kd.R (Kd.int .i64) 3 (W.alloc (.cells #[] 3)) base (fun _ => True) (.slice (some ⟨W.heap.size, 0, none⟩) 0 0) [] :=
 ⟨fun _ _ => trivial, [], World.ownsRow_made W #[] 0 hb (by decide) (by simp), Reps.none _ _⟩
def pgOf (st : TSt) : List Int × Bool := if st.bad = true then ([], false) else (srt st.pg, true)
noncomputable def impl_PagesOf.f (l0_0 : List ByteArray) (l0_1 : List S189) (a1 : Int) : Option (List Int × Bool) := (rnOf l0_0 l0_1).map fun rn => pgOf (tof rn a1)
noncomputable def spec_PagesOf.f (l0_0 : List ByteArray) (l0_1 : List S189) (a1 : Int) : Option (List Int × Bool) := (rnOf l0_0 l0_1).map fun rn => pgOf (look rn a1)
theorem tof_pg {rn : Int → S68 × Bool} (hl : RnLen rn) (root : Int) : (tof rn root).pg.length ≤ 349524 := by
 unfold tof
 split
 ·simp [st0]
 ·have := (dn_len hl 9 st0 root 1).1
  rw [show st0.pg.length + nf 9 = 87381 from rfl] at this
  omega
theorem look_pg {rn : Int → S68 × Bool} (hl : RnLen rn) (root : Int) : (look rn root).pg.length ≤ 349524 := by
 unfold look
 split
 ·simp [ss0]
 ·have := (sw_len hl 9 ss0 root 0 ⟨#[]⟩ ⟨#[]⟩ false).1
  rw [show ss0.pg.length + nf 9 = 87381 from rfl] at this
  omega
theorem impl_PagesOf.calls (A0_0 : Option Addr) (c0_0 : Nat) (l0_0 : List ByteArray) (A0_1 : Option Addr) (c0_1 : Nat) (l0_1 : List S189) (a1 : Int) (r1 : List Int) (r2 : Bool) (w : World) (hr0_0 : Kd.C Kd.string w A0_0 l0_0.length l0_0) (hc0_0 : l0_0.length ≤ c0_0) (hr0_1 : Kd.C k189 w A0_1 l0_1.length l0_1) (hc0_1 : l0_1.length ≤ c0_1) (h : impl_PagesOf.f l0_0 l0_1 a1 = some (r1, r2)) :
  Calls Try.prog 50 #[.agg #[.slice A0_0 l0_0.length c0_0, .slice A0_1 l0_1.length c0_1], .int .i64 a1] w fun e w' => ∃ v0_ : Value, e = .returned (.tuple #[v0_, .bool r2]) ∧ Kd.R (Kd.int .i64) 3 w' w.heap.size (fun _ => True) v0_ r1 ∧ Below w.heap.size w w' := by
 obtain ⟨rn, h1, h2⟩ := Option.map_eq_some_iff.1 h
 have HP := Aside0.mk hr0_0
 have HL := Aside0.mk hr0_1
 have HRN := Aside0.mk (rnOf_some h1).1
 have hlen := tof_pg (rnOf_some h1).1.len a1
 obtain ⟨st, hs⟩ : ∃ z, tof rn a1 = z := ⟨_, rfl⟩
 rw [hs] at h2 hlen
 obtain ⟨pg, pr, dp, order, bad⟩ := st
 have HST := Aside0.mk hs
 have HR := Aside0.mk h2
 have HN : Aside0 (pg.length ≤ 349524) := ⟨hlen⟩
 clear hr0_0 hr0_1 h h1 h2 hs hlen
 cases bad with
 | true =>
  obtain ⟨rfl, rfl⟩ : [] = r1 ∧ false = r2 := Prod.mk.inj HR.out
  go_enter Try.func50, Try.ntmps50
  go_wp2_with fail
  ((with_reducible refine (treeOf_calls A0_0 c0_0 l0_0 A0_1 c0_1 l0_1 _ (Kd.C_below HP.out (below_alloc (Below.refl _ _) _)) hc0_0 (Kd.C_below HL.out (below_alloc (Below.refl _ _) _)) hc0_1 rn HRN.out a1).mono ?_); rintro e w1 ⟨g, Ag, cg, Ap, cp, Ad, cd, rfl, T1⟩)
  rw [HST.out] at T1
  simp only at T1
  have T2 := Aside0.mk T1
  have HB2 := Aside0.mk (below_step (below_alloc (Below.refl w.heap.size w) (.cells #[.slice A0_0 l0_0.length c0_0, .slice A0_1 l0_1.length c0_1] 41)) T1.bel)
  have hsz := Aside0.mk (show w.heap.size ≤ (w.alloc (.cells #[.slice A0_0 l0_0.length c0_0, .slice A0_1 l0_1.length c0_1] 41)).heap.size by simp)
  clear T1
  have hgl := blk_lt T2.out.bT
  have hd6 : w1.cell? ⟨g, 6, none⟩ = some (.bool true) := (blk_cell T2.out.bT 6).trans rfl
  have hp : w1.cell? ⟨g, 2, none⟩ = some (.slice Ag pg.length cg) := (blk_cell T2.out.bT 2).trans rfl
  go_wp2
  refine bodyPost_ret (results_list (rs := [.tmp 4, .tmp 5]) rfl (by simp) (Vals.tmp (Vals.tmp Vals.nil))) rfl ?_
  exact ⟨_, rfl, Kd.R_nil _ _ _ _ _, HB2.out⟩
 | false =>
  obtain ⟨rfl, rfl⟩ : srt pg = r1 ∧ true = r2 := Prod.mk.inj HR.out
  go_enter Try.func50, Try.ntmps50
  go_wp2_with fail
  ((with_reducible refine (treeOf_calls A0_0 c0_0 l0_0 A0_1 c0_1 l0_1 _ (Kd.C_below HP.out (below_alloc (Below.refl _ _) _)) hc0_0 (Kd.C_below HL.out (below_alloc (Below.refl _ _) _)) hc0_1 rn HRN.out a1).mono ?_); rintro e w1 ⟨g, Ag, cg, Ap, cp, Ad, cd, rfl, T1⟩)
  rw [HST.out] at T1
  simp only at T1
  have T2 := Aside0.mk T1
  have HB2 := Aside0.mk (below_step (below_alloc (Below.refl w.heap.size w) (.cells #[.slice A0_0 l0_0.length c0_0, .slice A0_1 l0_1.length c0_1] 41)) T1.bel)
  have hsz := Aside0.mk (show w.heap.size ≤ (w.alloc (.cells #[.slice A0_0 l0_0.length c0_0, .slice A0_1 l0_1.length c0_1] 41)).heap.size by simp)
  clear T1
  have hgl := blk_lt T2.out.bT
  have hd6 : w1.cell? ⟨g, 6, none⟩ = some (.bool false) := (blk_cell T2.out.bT 6).trans rfl
  have hp : w1.cell? ⟨g, 2, none⟩ = some (.slice Ag pg.length cg) := (blk_cell T2.out.bT 2).trans rfl
  go_wp2_with fail
  ((with_reducible refine (sort_own T2.out.rg (by have := HN.out; omega)).mono ?_); rintro e w2 ⟨rfl, ho, hgr⟩)
  have bT2 := Aside0.mk (blk_grown T2.out.bT hgr (Kd.R_ne T2.out.rg T2.out.bT (by decide)))
  have HO := Aside0.mk ho
  have HB3 := Aside0.mk (HB2.out.grown hgr HB2.out.size (fun k hk => Nat.le_trans hsz.out (Kd.R_base T2.out.rg k hk)))
  clear ho hgr hp hd6 hgl
  have hgl := blk_lt bT2.out
  have hp : w2.cell? ⟨g, 2, none⟩ = some (.slice Ag pg.length cg) := (blk_cell bT2.out 2).trans rfl
  go_wp2
  refine bodyPost_ret (results_list (rs := [.tmp 4, .tmp 5]) rfl (by simp) (Vals.tmp (Vals.tmp Vals.nil))) rfl ?_
  exact ⟨_, rfl, Kd.R_lower HO.out hsz.out, HB3.out⟩
theorem spec_PagesOf.calls (A0_0 : Option Addr) (c0_0 : Nat) (l0_0 : List ByteArray) (A0_1 : Option Addr) (c0_1 : Nat) (l0_1 : List S189) (a1 : Int) (r1 : List Int) (r2 : Bool) (w : World) (hr0_0 : Kd.C Kd.string w A0_0 l0_0.length l0_0) (hc0_0 : l0_0.length ≤ c0_0) (hr0_1 : Kd.C k189 w A0_1 l0_1.length l0_1) (hc0_1 : l0_1.length ≤ c0_1) (h : spec_PagesOf.f l0_0 l0_1 a1 = some (r1, r2)) :
  Calls Try.prog 49 #[.agg #[.slice A0_0 l0_0.length c0_0, .slice A0_1 l0_1.length c0_1], .int .i64 a1] w fun e w' => ∃ v0_ : Value, e = .returned (.tuple #[v0_, .bool r2]) ∧ Kd.R (Kd.int .i64) 3 w' w.heap.size (fun _ => True) v0_ r1 ∧ Below w.heap.size w w' := by
 obtain ⟨rn, h1, h2⟩ := Option.map_eq_some_iff.1 h
 have HP := Aside0.mk hr0_0
 have HL := Aside0.mk hr0_1
 have HRN := Aside0.mk (rnOf_some h1).2
 have hlen := look_pg (rnOf_some h1).1.len a1
 obtain ⟨st, hs⟩ : ∃ z, look rn a1 = z := ⟨_, rfl⟩
 rw [hs] at h2 hlen
 obtain ⟨pg, pr, dp, order, bad⟩ := st
 have HST := Aside0.mk hs
 have HR := Aside0.mk h2
 have HN : Aside0 (pg.length ≤ 349524) := ⟨hlen⟩
 clear hr0_0 hr0_1 h h1 h2 hs hlen
 cases bad with
 | true =>
  obtain ⟨rfl, rfl⟩ : [] = r1 ∧ false = r2 := Prod.mk.inj HR.out
  go_enter Try.func49, Try.ntmps49
  go_wp2_with fail
  ((with_reducible refine (l07Look_calls A0_0 c0_0 l0_0 A0_1 c0_1 l0_1 _ (Kd.C_below HP.out (below_alloc (Below.refl _ _) _)) hc0_0 (Kd.C_below HL.out (below_alloc (Below.refl _ _) _)) hc0_1 rn HRN.out a1).mono ?_); rintro e w1 ⟨g, Ag, cg, Ap, cp, Ad, cd, rfl, T1⟩)
  rw [HST.out] at T1
  simp only at T1
  have T2 := Aside0.mk T1
  have HB2 := Aside0.mk (below_step (below_alloc (Below.refl w.heap.size w) (.cells #[.slice A0_0 l0_0.length c0_0, .slice A0_1 l0_1.length c0_1] 41)) T1.bel)
  have hsz := Aside0.mk (show w.heap.size ≤ (w.alloc (.cells #[.slice A0_0 l0_0.length c0_0, .slice A0_1 l0_1.length c0_1] 41)).heap.size by simp)
  clear T1
  have hgl := blk_lt T2.out.bT
  have hd3 : w1.cell? ⟨g, 3, none⟩ = some (.bool true) := (blk_cell T2.out.bT 3).trans rfl
  have hp : w1.cell? ⟨g, 1, none⟩ = some (.slice Ag pg.length cg) := (blk_cell T2.out.bT 1).trans rfl
  go_wp2
  refine bodyPost_ret (results_list (rs := [.tmp 4, .tmp 5]) rfl (by simp) (Vals.tmp (Vals.tmp Vals.nil))) rfl ?_
  exact ⟨_, rfl, pg_empty _ _ HB2.out.size, below_alloc HB2.out _⟩
 | false =>
  obtain ⟨rfl, rfl⟩ : srt pg = r1 ∧ true = r2 := Prod.mk.inj HR.out
  go_enter Try.func49, Try.ntmps49
  go_wp2_with fail
  ((with_reducible refine (l07Look_calls A0_0 c0_0 l0_0 A0_1 c0_1 l0_1 _ (Kd.C_below HP.out (below_alloc (Below.refl _ _) _)) hc0_0 (Kd.C_below HL.out (below_alloc (Below.refl _ _) _)) hc0_1 rn HRN.out a1).mono ?_); rintro e w1 ⟨g, Ag, cg, Ap, cp, Ad, cd, rfl, T1⟩)
  rw [HST.out] at T1
  simp only at T1
  have T2 := Aside0.mk T1
  have HB2 := Aside0.mk (below_step (below_alloc (Below.refl w.heap.size w) (.cells #[.slice A0_0 l0_0.length c0_0, .slice A0_1 l0_1.length c0_1] 41)) T1.bel)
  have hsz := Aside0.mk (show w.heap.size ≤ (w.alloc (.cells #[.slice A0_0 l0_0.length c0_0, .slice A0_1 l0_1.length c0_1] 41)).heap.size by simp)
  clear T1
  have hgl := blk_lt T2.out.bT
  have hd3 : w1.cell? ⟨g, 3, none⟩ = some (.bool false) := (blk_cell T2.out.bT 3).trans rfl
  have hp : w1.cell? ⟨g, 1, none⟩ = some (.slice Ag pg.length cg) := (blk_cell T2.out.bT 1).trans rfl
  go_wp2_with fail
  ((with_reducible refine (l07Sorted_calls Ag cg pg _ (R_seen T2.out.rg).2 (by have := HN.out; omega)).mono ?_); rintro e w2 ⟨B, d, rfl, ho, hb⟩)
  have HO := Aside0.mk ho
  have HB3 := Aside0.mk (below_step HB2.out hb)
  clear ho hb hp hd3 hgl
  go_wp2
  refine bodyPost_ret (results_list (rs := [.tmp 4, .tmp 5]) rfl (by simp) (Vals.tmp (Vals.tmp Vals.nil))) rfl ?_
  exact ⟨_, rfl, Kd.R_lower HO.out HB2.out.size, HB3.out⟩

def laws_eqIntS.l0 : Nat → List Int → List Int → Int → Option (Bool)
 | 0, _, _, _ => none
 | k + 1, x0, x1, x5 => if x5 < (x0.length : Int) then (if 0 ≤ x5 then (if x5 < (x1.length : Int) then (if (rd x0 x5) = (rd x1 x5) then (laws_eqIntS.l0 k x0 x1 (wrap64 (x5 + 1))) else (none)) else (none)) else (none)) else (some true)
def laws_eqIntS.f (k : Nat) (l0 : List Int) (l1 : List Int) : Option (Bool) := if (l0.length : Int) = (l1.length : Int) then (laws_eqIntS.l0 k l0 l1 0) else (none)
theorem laws_eqIntS.mono_l : ∀ k, (∀ y0 y1 y2, LeO (laws_eqIntS.l0 k y0 y1 y2) (laws_eqIntS.l0 (k + 1) y0 y1 y2))
 | 0 => fun _ _ _ r h => by simp [laws_eqIntS.l0] at h
 | k + 1 => by
  have ih0 := laws_eqIntS.mono_l k
  ·intro y0 y1 y2
   unfold laws_eqIntS.l0
   repeat' first
   | (with_reducible exact ih0 _ _ _)
   | (with_reducible exact LeO.refl _)
   | (with_reducible exact LeO.none _)
   | (with_reducible refine LeO.ite ?_ ?_)
   | (with_reducible refine LeO.bind ?_ (fun _ => ?_))
   | exact ih0 _ _ _
theorem laws_eqIntS.mono : ∀ a0 a1 k, LeO (laws_eqIntS.f k a0 a1) (laws_eqIntS.f (k + 1) a0 a1) := by
 intro a0 a1 k
 have ih0 := laws_eqIntS.mono_l k
 unfold laws_eqIntS.f
 repeat' first
   | (with_reducible exact ih0 _ _ _)
   | (with_reducible exact LeO.refl _)
   | (with_reducible exact LeO.none _)
   | (with_reducible refine LeO.ite ?_ ?_)
   | (with_reducible refine LeO.bind ?_ (fun _ => ?_))
   | exact ih0 _ _ _
theorem laws_eqIntS.calls (k : Nat) (A0 : Option Addr) (c0 : Nat) (l0 : List Int) (A1 : Option Addr) (c1 : Nat) (l1 : List Int) (r : Bool) (w : World) (hr0 : Kd.C (Kd.int .i64) w A0 l0.length l0) (hc0 : l0.length ≤ c0) (hr1 : Kd.C (Kd.int .i64) w A1 l1.length l1) (hc1 : l1.length ≤ c1) (h : laws_eqIntS.f k l0 l1 = some r) :
  Calls Try.prog 51 #[.slice A0 l0.length c0, .slice A1 l1.length c1] w fun e w' => e = .returned (.bool r) ∧ Drawn0 w w' := by
 have HR0 := Aside0.mk hr0
 have HC0 := Aside0.mk hc0
 clear hr0 hc0
 have HR1 := Aside0.mk hr1
 have HC1 := Aside0.mk hc1
 clear hr1 hc1
 have H : (if (l0.length : Int) = (l1.length : Int) then (laws_eqIntS.l0 k l0 l1 0) else (none)) = some r := h
 clear h
 by_cases c3 : (l0.length : Int) = (l1.length : Int)
 ·rw [if_pos c3] at H
  have c3b0 : ((l0.length : Int) == (l1.length : Int)) = true := beq_iff_eq.mpr c3
  have c3b1 : ((l0.length : Int) != (l1.length : Int)) = false := bne_eq_false_iff_eq.mpr c3
  have c3b2 : (l0.length == l1.length) = true := by first | simpa using c3 | (simp at c3 ⊢; omega)
  clear c3
  have H' := Aside0.mk H
  clear H
  go_enter Try.func51, Try.ntmps51
  go_wp2
  repeat (go_quiet (fail); try go_wp2)
  go_loopg [5] k (fun kq v5 w' => ∃ (x5_1 : Int), v5 = .int .i64 x5_1 ∧ Aside0 (laws_eqIntS.l0 kq l0 l1 x5_1 = some r) ∧ Aside0 (kq ≤ k) ∧ Drawn0 w w')
  case atStart => exact ⟨(0), (by first | rfl | (simp; done) | (simp [*]; done)), H', ⟨Nat.le_refl _⟩, by repeat (first | exact Drawn0.refl _ | apply Drawn0.step)⟩
  case round =>
   clear H'
   try clear c1
   try clear c3
   try clear c3b0
   try clear c3b1
   try clear c3b2
   obtain ⟨x5_1, rfl, HA, HK1, ⟨m1, rfl⟩⟩ := hrel
   cases gk with
   | zero => exact absurd HA.out (by simp [laws_eqIntS.l0])
   | succ k1 =>
    have H := HA.out
    clear HA
    simp only [laws_eqIntS.l0] at H
    by_cases c4 : x5_1 < (l0.length : Int)
    ·rw [if_pos c4] at H
     have c4b0 : decide (x5_1 < (l0.length : Int)) = true := decide_eq_true c4
     clear c4
     by_cases c5 : 0 ≤ x5_1
     ·rw [if_pos c5] at H
      have c5b0 : decide (0 ≤ x5_1) = true := decide_eq_true c5
      clear c5
      by_cases c6 : x5_1 < (l1.length : Int)
      ·rw [if_pos c6] at H
       have c6b0 : decide (x5_1 < (l1.length : Int)) = true := decide_eq_true c6
       clear c6
       by_cases c7 : (rd l0 x5_1) = (rd l1 x5_1)
       ·rw [if_pos c7] at H
        have c7b0 : ((rd l0 x5_1) == (rd l1 x5_1)) = true := beq_iff_eq.mpr c7
        have c7b1 : ((rd l0 x5_1) != (rd l1 x5_1)) = false := bne_eq_false_iff_eq.mpr c7
        clear c7
        have H' := Aside0.mk H
        clear H
        have p395 : 0 ≤ (x5_1 : Int) := of_decide_eq_true (by with_reducible assumption)
        have q395 : x5_1 < (l0.length : Int) := of_decide_eq_true (by with_reducible assumption)
        obtain ⟨ad395, e395, hx395_0⟩ := Kd.at_int HR0.out x5_1 p395 q395
        cases e395
        replace p395 := eq_true p395
        replace q395 := eq_true q395
        have p396 : 0 ≤ (x5_1 : Int) := of_decide_eq_true (by with_reducible assumption)
        have q396 : x5_1 < (l1.length : Int) := of_decide_eq_true (by with_reducible assumption)
        obtain ⟨ad396, e396, hx396_0⟩ := Kd.at_int HR1.out x5_1 p396 q396
        cases e396
        replace p396 := eq_true p396
        replace q396 := eq_true q396
        go_wp2
        repeat (go_quiet (fail); try go_wp2)
        go_roundg k1
        case measure => have := HK1.out; omega
        case rel => exact ⟨(wrap64 (x5_1 + 1)), (by first | rfl | (simp; done) | (simp [*]; done)), H', ⟨by have := HK1.out; omega⟩, by repeat (first | exact Drawn0.refl _ | apply Drawn0.step)⟩
       ·rw [if_neg c7] at H
        exact absurd H (by simp)
      ·rw [if_neg c6] at H
       exact absurd H (by simp)
     ·rw [if_neg c5] at H
      exact absurd H (by simp)
    ·rw [if_neg c4] at H
     have c4b0 : decide (x5_1 < (l0.length : Int)) = false := decide_eq_false c4
     clear c4
     obtain rfl := Option.some.inj H
     go_wp2
     repeat (go_quiet (fail); try go_wp2)
     go_ret
     exact ⟨by first | rfl | (simp; done) | (simp [*]; done), by repeat (first | exact Drawn0.refl _ | apply Drawn0.step)⟩
 ·rw [if_neg c3] at H
  exact absurd H (by simp)
def laws_markIntS.l0 : Nat → List Int → Int → Int → Option (Int × List Int)
 | 0, _, _, _ => none
 | k + 1, x0, x1, x5 => if x5 < (x0.length : Int) then (if 0 ≤ x5 then (laws_markIntS.l0 k (x0.set (x5 : Int).toNat x1) (wrap64 (x1 + 1)) (wrap64 (x5 + 1))) else (none)) else (some (x1, x0))
def laws_markIntS.f (k : Nat) (l0 : List Int) (a1 : Int) : Option (Int × List Int) := laws_markIntS.l0 k l0 a1 0
theorem laws_markIntS.mono_l : ∀ k, (∀ y0 y1 y2, LeO (laws_markIntS.l0 k y0 y1 y2) (laws_markIntS.l0 (k + 1) y0 y1 y2))
 | 0 => fun _ _ _ r h => by simp [laws_markIntS.l0] at h
 | k + 1 => by
  have ih0 := laws_markIntS.mono_l k
  ·intro y0 y1 y2
   unfold laws_markIntS.l0
   repeat' first
   | (with_reducible exact ih0 _ _ _)
   | (with_reducible exact LeO.refl _)
   | (with_reducible exact LeO.none _)
   | (with_reducible refine LeO.ite ?_ ?_)
   | (with_reducible refine LeO.bind ?_ (fun _ => ?_))
   | exact ih0 _ _ _
theorem laws_markIntS.mono : ∀ a0 a1 k, LeO (laws_markIntS.f k a0 a1) (laws_markIntS.f (k + 1) a0 a1) := by
 intro a0 a1 k
 have ih0 := laws_markIntS.mono_l k
 unfold laws_markIntS.f
 repeat' first
   | (with_reducible exact ih0 _ _ _)
   | (with_reducible exact LeO.refl _)
   | (with_reducible exact LeO.none _)
   | (with_reducible refine LeO.ite ?_ ?_)
   | (with_reducible refine LeO.bind ?_ (fun _ => ?_))
   | exact ih0 _ _ _
theorem laws_markIntS.calls (k : Nat) (P0_ : Nat → Prop) (u9000_ : Value) (l0 : List Int) (a1 : Int) (r1 : Int) (r2 : List Int) (w0 w : World) (hB : Below w0.heap.size w0 w) (ho0 : Kd.R (Kd.int .i64) 3 w w0.heap.size P0_ u9000_ l0) (h : laws_markIntS.f k l0 a1 = some (r1, r2)) :
  Calls Try.prog 52 #[u9000_, .int .i64 a1] w fun e w' => e = .returned (.int .i64 r1) ∧ Kd.R (Kd.int .i64) 3 w' w0.heap.size (fun k_ => (P0_ k_ ∨ w.heap.size ≤ k_)) u9000_ r2 ∧ Below w0.heap.size w0 w' ∧ Kept w w' (fun k_ => P0_ k_) := by
 have HO0 := Aside0.mk (show Kd.R (Kd.int .i64) 3 w w0.heap.size (fun k_ => (P0_ k_ ∨ w.heap.size ≤ k_)) u9000_ l0 from Kd.R_mono ho0 (fun k_ hk => (.inl hk)))
 have HK := Aside0.mk (Kept.refl w (fun k_ => P0_ k_))
 have HW0 := Aside0.mk hB.size
 have HB := Aside0.mk hB
 clear hB
 have H : (laws_markIntS.l0 k l0 a1 0) = some (r1, r2) := h
 clear h
 have H' := Aside0.mk H
 clear H
 go_enter Try.func52, Try.ntmps52
 go_wp2
 go_loopg [1, 5] k (fun kq v1 v5 w' => ∃ (x0_1 : List Int) (x1_1 : Int) (x5_1 : Int), v1 = .int .i64 x1_1 ∧ v5 = .int .i64 x5_1 ∧ Aside0 (laws_markIntS.l0 kq x0_1 x1_1 x5_1 = some (r1, r2)) ∧ Aside0 (kq ≤ k) ∧ Aside0 (Kd.R (Kd.int .i64) 3 w' w0.heap.size (fun k_ => (P0_ k_ ∨ w.heap.size ≤ k_)) u9000_ x0_1) ∧ Aside0 (Kept w w' (fun k_ => P0_ k_)) ∧ Aside0 (Below w0.heap.size w0 w'))
 case atStart => exact ⟨(l0), (a1), (0), (by first | rfl | (simp; done) | (simp [*]; done)), (by first | rfl | (simp; done) | (simp [*]; done)), H', ⟨Nat.le_refl _⟩, ⟨by (with_reducible repeat (first | apply Kd.R_alloc | apply Kd.R_drewN | apply Kd.R_drew)); exact HO0.out⟩, ⟨by repeat (first | (with_reducible first | exact HK.out | apply Kept.alloc | apply Kept.drewN | apply Kept.drew) | exact HK.out)⟩, ⟨by repeat (first | (with_reducible first | exact HB.out | apply below_alloc | apply pw_below_drewN | apply below_drew1) | exact HB.out)⟩⟩
 case round =>
  clear H'
  obtain ⟨x0_1, x1_1, x5_1, rfl, rfl, HA, HK1, HO_0, HK, HB⟩ := hrel
  cases gk with
  | zero => exact absurd HA.out (by simp [laws_markIntS.l0])
  | succ k1 =>
   have H := HA.out
   clear HA
   simp only [laws_markIntS.l0] at H
   by_cases c3 : x5_1 < (x0_1.length : Int)
   ·rw [if_pos c3] at H
    have c3b0 : decide (x5_1 < (x0_1.length : Int)) = true := decide_eq_true c3
    clear c3
    by_cases c4 : 0 ≤ x5_1
    ·rw [if_pos c4] at H
     have c4b0 : decide (0 ≤ x5_1) = true := decide_eq_true c4
     clear c4
     obtain ⟨y397, hy397⟩ : ∃ y_ : List Int, y_ = (x0_1.set (x5_1 : Int).toNat x1_1) := ⟨_, rfl⟩
     replace H : (laws_markIntS.l0 k1 y397 (wrap64 (x1_1 + 1)) (wrap64 (x5_1 + 1))) = some (r1, r2) := by first | (rw [hy397]; with_reducible exact H) | (have H2_ := (Option.bind_some _ _).symm.trans H; rw [hy397]; with_reducible exact H2_) | (have H2_ := (Option.bind_some _ _).symm.trans H; with_reducible exact H2_) | with_reducible exact H | (rw [hy397]; exact H) | exact H
     have Ny397 := Aside0.mk hy397
     clear hy397
     have H' := Aside0.mk H
     clear H
     obtain ⟨Ao6, co6, eo6⟩ := Kd.R_slice HO_0.out
     subst eo6
     have p5 : 0 ≤ (x5_1 : Int) := of_decide_eq_true (by with_reducible assumption)
     have q5 : (x5_1 : Int) < ((x0_1.length : Int) : Int) := of_decide_eq_true (by with_reducible assumption)
     obtain ⟨go5, co5, eo5, gb5, gl5, cl5, HG5⟩ := Kd.R_form HO_0.out (by omega)
     (first | cases eo5 | (injection eo5 with ea_ en_ ec_; (first | subst ea_ | (injection ea_ with ea_; subst ea_)); subst ec_; clear en_))
     have GB5 := Aside0.mk gb5
     have GG5 := Aside0.mk HG5
     clear gb5 gl5 HG5
     have HMgo5 := Aside0.mk (show (P0_ go5 ∨ w.heap.size ≤ go5) from (HO_0.out.1 _ rfl))
     obtain ⟨hx5_0, hf5_0⟩ := Kd.R_celln 0 HO_0.out (x5_1 : Int) p5 q5
     replace p5 := eq_true p5
     replace q5 := eq_true q5
     have HP7 := Kd.R_putg HO_0.out (x5_1 : Int) x1_1
     go_wp2_with (first | ((with_reducible refine gate_store (t := 3) (p := 15) rfl ?_); refine store_event (t := 3) (p := 15) (v := ?vo_w8) (w1 := (wr.setCell ⟨go5, (x5_1 : Int).toNat, none⟩ (.int .i64 x1_1))) ?hg ?ho ?hn ?hr ?_; (case ho => rfl); (case hg => rfl); (case hn => rfl); (case hr => first | (go_simp; done) | (go_simp; rfl)); intro w8 hw; have hg : wr.grownBy w8 (some go5) := (by rw [hw]; exact HP7.2); have hp_ : Kd.R (Kd.int .i64) 3 w8 w0.heap.size (fun k_ => (P0_ k_ ∨ w.heap.size ≤ k_)) (.slice (some ⟨go5, 0, none⟩) x0_1.length co6) y397 := (by rw [hw, Ny397.out]; exact HP7.1); clear HP7; have n0_ := Aside0.mk (hp_); have n1_ := Aside0.mk ((by rw [hw]; exact below_set (HB.out) GB5.out : Below w0.heap.size w0 w8)); have n2_ := Aside0.mk (Kept.of_grown (S := (fun k_ => P0_ k_)) hg (by repeat (first | (with_reducible first | exact HK.out | apply Kept.alloc | apply Kept.drewN | apply Kept.drew) | exact HK.out)) (fun k_ e_ => (HO_0.out.1 k_ e_))); clear HO_0; clear HB; clear HK; have HO_0 := n0_; have HB := n1_; have HK := n2_; clear n0_ n1_ n2_; clear hg hw hp_))
     go_roundg k1
     case measure => have := HK1.out; omega
     case rel => exact ⟨(y397), (wrap64 (x1_1 + 1)), (wrap64 (x5_1 + 1)), (by first | rfl | (simp; done) | (simp [*]; done)), (by first | rfl | (simp; done) | (simp [*]; done)), H', ⟨by have := HK1.out; omega⟩, ⟨by (with_reducible repeat (first | apply Kd.R_alloc | apply Kd.R_drewN | apply Kd.R_drew)); exact HO_0.out⟩, ⟨by repeat (first | (with_reducible first | exact HK.out | apply Kept.alloc | apply Kept.drewN | apply Kept.drew) | exact HK.out)⟩, ⟨by repeat (first | (with_reducible first | exact HB.out | apply below_alloc | apply pw_below_drewN | apply below_drew1) | exact HB.out)⟩⟩
    ·rw [if_neg c4] at H
     exact absurd H (by simp)
   ·rw [if_neg c3] at H
    have c3b0 : decide (x5_1 < (x0_1.length : Int)) = false := decide_eq_false c3
    clear c3
    simp only [Option.some.injEq, Prod.mk.injEq] at H
    obtain ⟨rfl, rfl⟩ := H
    obtain ⟨Ao9, co9, eo9⟩ := Kd.R_slice HO_0.out
    subst eo9
    go_wp2
    go_ret
    exact ⟨by first | rfl | (simp [errW_none, errW_some] <;> rfl) | (simp [*, errW_none, errW_some] <;> rfl), by (with_reducible repeat (first | apply Kd.R_alloc | apply Kd.R_drewN | apply Kd.R_drew)); exact HO_0.out, by repeat (first | (with_reducible first | exact HB.out | apply below_alloc | apply pw_below_drewN | apply below_drew1) | exact HB.out), by repeat (first | (with_reducible first | exact HK.out | apply Kept.alloc | apply Kept.drewN | apply Kept.drew) | exact HK.out)⟩
def laws_heldIntS.l0 : Nat → List Int → Int → Int → Option (Int)
 | 0, _, _, _ => none
 | k + 1, x0, x1, x5 => if x5 < (x0.length : Int) then (if 0 ≤ x5 then (if (rd x0 x5) = x1 then (laws_heldIntS.l0 k x0 (wrap64 (x1 + 1)) (wrap64 (x5 + 1))) else (none)) else (none)) else (some x1)
def laws_heldIntS.f (k : Nat) (l0 : List Int) (a1 : Int) : Option (Int) := laws_heldIntS.l0 k l0 a1 0
theorem laws_heldIntS.mono_l : ∀ k, (∀ y0 y1 y2, LeO (laws_heldIntS.l0 k y0 y1 y2) (laws_heldIntS.l0 (k + 1) y0 y1 y2))
 | 0 => fun _ _ _ r h => by simp [laws_heldIntS.l0] at h
 | k + 1 => by
  have ih0 := laws_heldIntS.mono_l k
  ·intro y0 y1 y2
   unfold laws_heldIntS.l0
   repeat' first
   | (with_reducible exact ih0 _ _ _)
   | (with_reducible exact LeO.refl _)
   | (with_reducible exact LeO.none _)
   | (with_reducible refine LeO.ite ?_ ?_)
   | (with_reducible refine LeO.bind ?_ (fun _ => ?_))
   | exact ih0 _ _ _
theorem laws_heldIntS.mono : ∀ a0 a1 k, LeO (laws_heldIntS.f k a0 a1) (laws_heldIntS.f (k + 1) a0 a1) := by
 intro a0 a1 k
 have ih0 := laws_heldIntS.mono_l k
 unfold laws_heldIntS.f
 repeat' first
   | (with_reducible exact ih0 _ _ _)
   | (with_reducible exact LeO.refl _)
   | (with_reducible exact LeO.none _)
   | (with_reducible refine LeO.ite ?_ ?_)
   | (with_reducible refine LeO.bind ?_ (fun _ => ?_))
   | exact ih0 _ _ _
theorem laws_heldIntS.calls (k : Nat) (A0 : Option Addr) (c0 : Nat) (l0 : List Int) (a1 : Int) (r : Int) (w : World) (hr0 : Kd.C (Kd.int .i64) w A0 l0.length l0) (hc0 : l0.length ≤ c0) (h : laws_heldIntS.f k l0 a1 = some r) :
  Calls Try.prog 53 #[.slice A0 l0.length c0, .int .i64 a1] w fun e w' => e = .returned (.int .i64 r) ∧ Drawn0 w w' := by
 have HR0 := Aside0.mk hr0
 have HC0 := Aside0.mk hc0
 clear hr0 hc0
 have H : (laws_heldIntS.l0 k l0 a1 0) = some r := h
 clear h
 have H' := Aside0.mk H
 clear H
 go_enter Try.func53, Try.ntmps53
 go_wp2
 go_loopg [1, 5] k (fun kq v1 v5 w' => ∃ (x1_1 : Int) (x5_1 : Int), v1 = .int .i64 x1_1 ∧ v5 = .int .i64 x5_1 ∧ Aside0 (laws_heldIntS.l0 kq l0 x1_1 x5_1 = some r) ∧ Aside0 (kq ≤ k) ∧ Drawn0 w w')
 case atStart => exact ⟨(a1), (0), (by first | rfl | (simp; done) | (simp [*]; done)), (by first | rfl | (simp; done) | (simp [*]; done)), H', ⟨Nat.le_refl _⟩, by repeat (first | exact Drawn0.refl _ | apply Drawn0.step)⟩
 case round =>
  clear H'
  obtain ⟨x1_1, x5_1, rfl, rfl, HA, HK1, ⟨m1, rfl⟩⟩ := hrel
  cases gk with
  | zero => exact absurd HA.out (by simp [laws_heldIntS.l0])
  | succ k1 =>
   have H := HA.out
   clear HA
   simp only [laws_heldIntS.l0] at H
   by_cases c3 : x5_1 < (l0.length : Int)
   ·rw [if_pos c3] at H
    have c3b0 : decide (x5_1 < (l0.length : Int)) = true := decide_eq_true c3
    clear c3
    by_cases c4 : 0 ≤ x5_1
    ·rw [if_pos c4] at H
     have c4b0 : decide (0 ≤ x5_1) = true := decide_eq_true c4
     clear c4
     by_cases c5 : (rd l0 x5_1) = x1_1
     ·rw [if_pos c5] at H
      have c5b0 : ((rd l0 x5_1) == x1_1) = true := beq_iff_eq.mpr c5
      have c5b1 : ((rd l0 x5_1) != x1_1) = false := bne_eq_false_iff_eq.mpr c5
      clear c5
      have H' := Aside0.mk H
      clear H
      have p398 : 0 ≤ (x5_1 : Int) := of_decide_eq_true (by with_reducible assumption)
      have q398 : x5_1 < (l0.length : Int) := of_decide_eq_true (by with_reducible assumption)
      obtain ⟨ad398, e398, hx398_0⟩ := Kd.at_int HR0.out x5_1 p398 q398
      cases e398
      replace p398 := eq_true p398
      replace q398 := eq_true q398
      go_wp2
      go_roundg k1
      case measure => have := HK1.out; omega
      case rel => exact ⟨(wrap64 (x1_1 + 1)), (wrap64 (x5_1 + 1)), (by first | rfl | (simp; done) | (simp [*]; done)), (by first | rfl | (simp; done) | (simp [*]; done)), H', ⟨by have := HK1.out; omega⟩, by repeat (first | exact Drawn0.refl _ | apply Drawn0.step)⟩
     ·rw [if_neg c5] at H
      exact absurd H (by simp)
    ·rw [if_neg c4] at H
     exact absurd H (by simp)
   ·rw [if_neg c3] at H
    have c3b0 : decide (x5_1 < (l0.length : Int)) = false := decide_eq_false c3
    clear c3
    obtain rfl := Option.some.inj H
    go_wp2
    go_ret
    exact ⟨by first | rfl | (simp; done) | (simp [*]; done), by repeat (first | exact Drawn0.refl _ | apply Drawn0.step)⟩
def laws_FnExactPagesOf.T10 : Bool × List (List Nat × List Nat) := (true, [([], []), ([], []), ([1], [1]), ([0, 2, 2], [0, 2]), ([3], [3])])
def laws_FnExactPagesOf.B10 : List Nat := [0, 0, 2, 7, 15]
theorem laws_FnExactPagesOf.ok10_2 : regB (opsOf Try.f9 10) laws_FnExactPagesOf.T10 laws_FnExactPagesOf.B10 [] [.t 0, .t 1, .e 2, .e 3, .p 4] = true := by kernel_rfl
theorem FnExactPagesOf_small (k : Nat) (A0 : Option Addr) (c0 : Nat) (pages : List ByteArray) (A1 : Option Addr) (c1 : Nat) (late0 : List S187) (a1 : Int) (r : Int) (w : World)
  (hp : Kd.C Kd.string w A0 pages.length pages) (hc0 : pages.length ≤ c0) (hl : Kd.C k187 w A1 late0.length late0) (hc1 : late0.length ≤ c1) (hsz : laws_szDisk.f k pages late0 1048576 = some r) (hr : r < 0) :
  Calls Try.prog 9 #[.agg #[.slice A0 pages.length c0, .slice A1 late0.length c1], .int .i64 a1] w fun e w' => e = .returned (.bool true) ∧ Below w.heap.size w w' := by
 have HP := Aside0.mk hp
 have HL := Aside0.mk hl
 have HSZ := Aside0.mk hsz
 have hr : decide (r < 0) = true := decide_eq_true hr
 clear hp hl hsz
 go_enter Try.func9, Try.ntmps9
 go_wp2_with fail
 ((with_reducible refine (laws_szDisk.calls k A0 c0 pages A1 c1 late0 1048576 r _ (Kd.C_below HP.out (below_alloc (Below.refl _ _) _)) hc0 (Kd.C_below HL.out (below_alloc (Below.refl _ _) _)) hc1 HSZ.out).mono ?_); rintro e w1 ⟨rfl, hb⟩)
 have HB := Aside0.mk (below_step (below_alloc (Below.refl w.heap.size w) (.cells #[.slice A0 pages.length c0, .slice A1 late0.length c1] 25)) hb)
 clear hb
 go_wp2
 go_ret
 exact ⟨rfl, HB.out⟩
theorem FnExactPagesOf_walk (k : Nat) (A0 : Option Addr) (c0 : Nat) (pages : List ByteArray) (A1 : Option Addr) (c1 : Nat) (late0 : List S187) (a1 : Int) (late : List S189) (r : Int) (ps : List Int) (ok : Bool) (mk : Int) (mp : List ByteArray) (ml : List S189) (mq : Int) (ms : List Int) (w : World)
  (hp : Kd.C Kd.string w A0 pages.length pages) (hc0 : pages.length ≤ c0) (hl : Kd.C k187 w A1 late0.length late0) (hc1 : late0.length ≤ c1)
  (hsz : laws_szDisk.f k pages late0 1048576 = some r) (hr : ¬ r < 0) (hto : laws_toDisk.f k pages late0 = some (pages, late)) (hsp : spec_PagesOf.f pages late a1 = some (ps, ok)) (him : impl_PagesOf.f pages late a1 = some (ps, ok))
  (heq : laws_eqIntS.f k ps ps = some true) (hed : laws_eqDisk.f k pages late pages late = some true) (hmd : laws_markDisk.f k pages late 1 = some (mk, mp, ml)) (hmk : ¬ mk < 0) (hmp : laws_markIntS.f k ps 1 = some (mq, ms)) (hml : ms.length = ps.length) (hhd : laws_heldIntS.f k ms 1 = some mq) (hmq : ¬ mq < 0) :
  Calls Try.prog 9 #[.agg #[.slice A0 pages.length c0, .slice A1 late0.length c1], .int .i64 a1] w fun e w' => e = .returned (.bool true) ∧ Below w.heap.size w w' := by
 have HP := Aside0.mk hp
 have HL := Aside0.mk hl
 have HSZ := Aside0.mk hsz
 have HTO := Aside0.mk hto
 have HSP := Aside0.mk hsp
 have HIM := Aside0.mk him
 have HEQ := Aside0.mk heq
 have HED := Aside0.mk hed
 have HMD := Aside0.mk hmd
 have HMK := Aside0.mk hmk
 have HMP := Aside0.mk hmp
 have HML := Aside0.mk hml
 have HHD := Aside0.mk hhd
 have HMQ := Aside0.mk hmq
 have hr : decide (r < 0) = false := decide_eq_false hr
 clear hp hl hsz hto hsp him heq hed hmd hmk hmp hml hhd hmq
 go_enter Try.func9, Try.ntmps9
 go_wp2_with fail
 ((with_reducible refine (laws_szDisk.calls k A0 c0 pages A1 c1 late0 1048576 r _ (Kd.C_below HP.out (below_alloc (Below.refl _ _) _)) hc0 (Kd.C_below HL.out (below_alloc (Below.refl _ _) _)) hc1 HSZ.out).mono ?_); rintro e w1 ⟨rfl, hb⟩)
 have HB := Aside0.mk (below_step (below_alloc (Below.refl w.heap.size w) (.cells #[.slice A0 pages.length c0, .slice A1 late0.length c1] 25)) hb)
 have BX := Aside0.mk (blk_below (blk_new w (.cells #[.slice A0 pages.length c0, .slice A1 late0.length c1] 25)) hb)
 clear hb
 have hx0 : w1.cell? ⟨w.heap.size, 0, none⟩ = some (.slice A0 pages.length c0) := (blk_cell BX.out 0).trans rfl
 have hx1 : w1.cell? ⟨w.heap.size, 1, none⟩ = some (.slice A1 late0.length c1) := (blk_cell BX.out 1).trans rfl
 go_wp2_with fail
 ((with_reducible refine (laws_toDisk.calls k A0 c0 pages A1 c1 late0 pages late _ (Kd.C_below HP.out HB.out) hc0 (Kd.C_below HL.out HB.out) hc1 HTO.out).mono ?_); rintro e w2 ⟨v0, v1, rfl, ho0, ho1, hb⟩)
 replace HB := Aside0.mk (below_step HB.out (hb))
 replace BX := Aside0.mk (blk_below BX.out (hb))
 clear hb
 obtain ⟨X0, d0, rfl⟩ := Kd.R_slice ho0
 obtain ⟨X1, d1, rfl⟩ := Kd.R_slice ho1
 have RA := Aside0.mk (R_seen ho0)
 have RB := Aside0.mk (R_seen ho1)
 clear hx0 hx1 ho0 ho1
 go_wp2_with fail
 have HB2 := Aside0.mk HB.out.size
 ((with_reducible refine (spec_PagesOf.calls X0 d0 pages X1 d1 late a1 ps ok _ RA.out.2 RA.out.1 RB.out.2 RB.out.1 HSP.out).mono ?_); rintro e w3 ⟨vw, rfl, how, hb⟩)
 replace HB := Aside0.mk (below_step HB.out (hb))
 replace BX := Aside0.mk (blk_below BX.out (hb))
 clear hb
 clear RA RB
 obtain ⟨AW, cW, rfl⟩ := Kd.R_slice how
 have RW := Aside0.mk (Kd.R_mono (ok' := fun k => k < w3.heap.size) (Kd.R_bound (Kd.R_lower how (show w.heap.size ≤ w2.heap.size from HB2.out))) (fun k hk => hk.2.2.1))
 clear how HB2
 have L3 := Aside0.mk (blk_lt BX.out)
 have hx0 : w3.cell? ⟨w.heap.size, 0, none⟩ = some (.slice A0 pages.length c0) := (blk_cell BX.out 0).trans rfl
 have hx1 : w3.cell? ⟨w.heap.size, 1, none⟩ = some (.slice A1 late0.length c1) := (blk_cell BX.out 1).trans rfl
 go_wp2_with fail
 ((with_reducible refine (laws_toDisk.calls k A0 c0 pages A1 c1 late0 pages late _ (Kd.C_below HP.out HB.out) hc0 (Kd.C_below HL.out HB.out) hc1 HTO.out).mono ?_); rintro e w4 ⟨v2, v3, rfl, ho2, ho3, hb⟩)
 have L34 := Aside0.mk hb.size
 replace HB := Aside0.mk (below_step HB.out (hb))
 replace BX := Aside0.mk (blk_below BX.out (hb))
 replace RW := Aside0.mk (Kd.R_below RW.out (hb))
 clear hb
 obtain ⟨X2, d2, rfl⟩ := Kd.R_slice ho2
 obtain ⟨X3, d3, rfl⟩ := Kd.R_slice ho3
 have RA := Aside0.mk (R_seen ho2)
 have RB := Aside0.mk (R_seen ho3)
 have RX := Aside0.mk (Kd.R_mono (ok' := fun k => w3.heap.size ≤ k ∧ k < w4.heap.size) (Kd.R_bound ho2) (fun k hk => ⟨hk.2.1, hk.2.2.1⟩))
 have RY := Aside0.mk (Kd.R_mono (ok' := fun k => w3.heap.size ≤ k ∧ k < w4.heap.size) (Kd.R_bound ho3) (fun k hk => ⟨hk.2.1, hk.2.2.1⟩))
 replace RX := Aside0.mk (Kd.R_lower RX.out (show w.heap.size ≤ w3.heap.size from Nat.le_of_lt L3.out))
 replace RY := Aside0.mk (Kd.R_lower RY.out (show w.heap.size ≤ w3.heap.size from Nat.le_of_lt L3.out))
 clear hx0 hx1 ho2 ho3
 go_wp2_with fail
 ((with_reducible refine (impl_PagesOf.calls X2 d2 pages X3 d3 late a1 ps ok _ (Kd.C_below RA.out.2 (below_alloc (Below.refl _ _) _)) RA.out.1 (Kd.C_below RB.out.2 (below_alloc (Below.refl _ _) _)) RB.out.1 HIM.out).mono ?_); rintro e w5 ⟨vg, rfl, hog, hb⟩)
 have BY := Aside0.mk (blk_below (blk_new w4 (.cells #[.slice X2 pages.length d2, .slice X3 late.length d3] 41)) hb)
 have RG := Aside0.mk (Kd.R_mono (ok' := fun k => w4.heap.size < k) (Kd.R_bound hog) (fun k hk => by have := hk.2.1; simp at this; omega))
 replace RG := Aside0.mk (Kd.R_lower RG.out (show w.heap.size ≤ (w4.alloc (.cells #[.slice X2 pages.length d2, .slice X3 late.length d3] 41)).heap.size by have := L3.out; have := L34.out; simp; omega))
 replace hb := below_step (below_alloc (Below.refl w4.heap.size w4) (.cells #[.slice X2 pages.length d2, .slice X3 late.length d3] 41)) hb
 replace HB := Aside0.mk (below_step HB.out (hb))
 replace BX := Aside0.mk (blk_below BX.out (hb))
 replace RW := Aside0.mk (Kd.R_below RW.out (hb))
 replace RX := Aside0.mk (Kd.R_below RX.out (hb))
 replace RY := Aside0.mk (Kd.R_below RY.out (hb))
 clear hb RA RB
 obtain ⟨AG, cG, rfl⟩ := Kd.R_slice hog
 clear hog
 go_wp2_with fail
 ((with_reducible refine (laws_eqIntS.calls k AG cG ps AW cW ps true _ (R_seen RG.out).2 (R_seen RG.out).1 (R_seen RW.out).2 (R_seen RW.out).1 HEQ.out).mono ?_); rintro e w6 ⟨rfl, hb⟩)
 replace hb := Drawn0.below hb
 replace HB := Aside0.mk (below_step HB.out (hb))
 replace BX := Aside0.mk (blk_below BX.out (hb))
 replace RW := Aside0.mk (Kd.R_below RW.out (hb))
 replace RX := Aside0.mk (Kd.R_below RX.out (hb))
 replace RY := Aside0.mk (Kd.R_below RY.out (hb))
 replace BY := Aside0.mk (blk_below BY.out (hb))
 replace RG := Aside0.mk (Kd.R_below RG.out (hb))
 clear hb
 go_upto_region 10 with (fail)
 replace HB := Aside0.mk (below_step HB.out ((Below.refl _ _).drew))
 replace BX := Aside0.mk (blk_below BX.out ((Below.refl _ _).drew))
 replace RW := Aside0.mk (Kd.R_below RW.out ((Below.refl _ _).drew))
 replace RX := Aside0.mk (Kd.R_below RX.out ((Below.refl _ _).drew))
 replace RY := Aside0.mk (Kd.R_below RY.out ((Below.refl _ _).drew))
 replace BY := Aside0.mk (blk_below BY.out ((Below.refl _ _).drew))
 replace RG := Aside0.mk (Kd.R_below RG.out ((Below.refl _ _).drew))
 refine seq_start laws_FnExactPagesOf.ok10_2 (S := fun w' => w'.cell? ⟨w.heap.size, 0, none⟩ = some (.slice A0 pages.length c0) ∧ w'.cell? ⟨w.heap.size, 1, none⟩ = some (.slice A1 late0.length c1) ∧ w'.cell? ⟨w4.heap.size, 0, none⟩ = some (.slice X2 pages.length d2) ∧ w'.cell? ⟨w4.heap.size, 1, none⟩ = some (.slice X3 late.length d3)) (by kernel_rfl) (fun _ _ _ _ h => h) ⟨(blk_cell BX.out 0).trans rfl, (blk_cell BX.out 1).trans rfl, (blk_cell BY.out 0).trans rfl, (blk_cell BY.out 1).trans rfl⟩ (fun hHeld => ?_)
 generalize w6.drew = wd at HB BX RW RX RY BY RG hHeld ⊢
 iterate 2 (refine seq_t (v := ?_) (a' := ?_) rfl rfl (Or.inl ⟨by rfl, ?_⟩) ?_ ?_; rotate_left; (· rintro w' ⟨s0, s1, s2, s3⟩; go_simp; with_reducible rfl); rotate_left; (· show Act.put _ (some _) _ = _; simp only [Act.put, List.setIfInBounds_toArray, List.set_cons_zero, List.set_cons_succ, i64_w, i32_w]; try rfl))
 refine seq_call rfl rfl Try.func38 (by kernel_rfl) rfl #[.agg #[.slice A0 pages.length c0, .slice A1 late0.length c1]] (by rfl) rfl (by (try simp only [List.map_toArray, List.map_cons, List.map_nil]); first | done | rfl) ?_
 with_reducible refine (laws_toDisk.calls k A0 c0 pages A1 c1 late0 pages late _ (Kd.C_below HP.out HB.out) hc0 (Kd.C_below HL.out HB.out) hc1 HTO.out).mono ?_
 rintro e w7 ⟨v4, v5, rfl, ho4, ho5, hb⟩
 replace HB := Aside0.mk (below_step HB.out (hb))
 replace BX := Aside0.mk (blk_below BX.out (hb))
 replace RW := Aside0.mk (Kd.R_below RW.out (hb))
 replace RX := Aside0.mk (Kd.R_below RX.out (hb))
 replace RY := Aside0.mk (Kd.R_below RY.out (hb))
 replace BY := Aside0.mk (blk_below BY.out (hb))
 replace RG := Aside0.mk (Kd.R_below RG.out (hb))
 clear hb
 obtain ⟨X4, d4, rfl⟩ := Kd.R_slice ho4
 obtain ⟨X5, d5, rfl⟩ := Kd.R_slice ho5
 refine ⟨_, rfl, ⟨(blk_cell BX.out 0).trans rfl, (blk_cell BX.out 1).trans rfl, (blk_cell BY.out 0).trans rfl, (blk_cell BY.out 1).trans rfl⟩, (fun hHeld => ?_)⟩
 refine seq_norm (a' := ?_) ?_ ?_; rotate_left; (· show Act.put _ (some 47) _ = _; simp only [Act.put, List.setIfInBounds_toArray, List.set_cons_zero, List.set_cons_succ, i64_w, i32_w]; try rfl)
 refine seq_call rfl rfl Try.func40 (by kernel_rfl) rfl #[.agg #[.slice X2 pages.length d2, .slice X3 late.length d3], .agg #[.slice X4 pages.length d4, .slice X5 late.length d5]] (by rfl) rfl (by (try simp only [List.map_toArray, List.map_cons, List.map_nil]); first | done | rfl) ?_
 with_reducible refine (laws_eqDisk.calls k X2 d2 pages X3 d3 late X4 d4 pages X5 d5 late true _ (R_seen RX.out).2 (R_seen RX.out).1 (R_seen RY.out).2 (R_seen RY.out).1 (R_seen ho4).2 (R_seen ho4).1 (R_seen ho5).2 (R_seen ho5).1 HED.out).mono ?_
 rintro e w8 ⟨rfl, hb⟩
 replace HB := Aside0.mk (below_step HB.out (hb))
 replace BX := Aside0.mk (blk_below BX.out (hb))
 replace RW := Aside0.mk (Kd.R_below RW.out (hb))
 replace RX := Aside0.mk (Kd.R_below RX.out (hb))
 replace RY := Aside0.mk (Kd.R_below RY.out (hb))
 replace BY := Aside0.mk (blk_below BY.out (hb))
 replace RG := Aside0.mk (Kd.R_below RG.out (hb))
 clear hb ho4 ho5
 refine ⟨_, rfl, ⟨(blk_cell BX.out 0).trans rfl, (blk_cell BX.out 1).trans rfl, (blk_cell BY.out 0).trans rfl, (blk_cell BY.out 1).trans rfl⟩, (fun hHeld => ?_)⟩
 refine seq_norm (a' := ?_) ?_ ?_; rotate_left; (· show Act.put _ (some 48) _ = _; simp only [Act.put, List.setIfInBounds_toArray, List.set_cons_zero, List.set_cons_succ, i64_w, i32_w]; try rfl)
 (refine seq_p (v := ?_) (a' := ?_) rfl rfl (Or.inl ⟨by rfl, ?_⟩) ?_ ?_; rotate_left; (· intro w'; go_simp; with_reducible rfl); rotate_left; (· show Act.put _ (some _) _ = _; simp only [Act.put, List.setIfInBounds_toArray, List.set_cons_zero, List.set_cons_succ, i64_w, i32_w]; try rfl))
 refine seq_done ?_
 clear hHeld
 have hy0 : w8.cell? ⟨w4.heap.size, 0, none⟩ = some (.slice X2 pages.length d2) := (blk_cell BY.out 0).trans rfl
 have hy1 : w8.cell? ⟨w4.heap.size, 1, none⟩ = some (.slice X3 late.length d3) := (blk_cell BY.out 1).trans rfl
 go_wp2_with fail
 ((with_reducible refine (laws_markDisk.calls k _ _ pages _ _ late 1 mk mp ml w _ HB.out RX.out RY.out HMD.out).mono ?_); rintro e w9 ⟨rfl, hx0, hx1, hB, hK⟩)
 clear hx0 hx1 hy0 hy1 RX RY
 replace HB := Aside0.mk hB
 replace BX := Aside0.mk (blk_kept BX.out hK (fun h => by have := L3.out; rcases h with ⟨h1, h2⟩ | ⟨h1, h2⟩ <;> omega))
 replace RW := Aside0.mk (Kd.R_kept RW.out hK (fun k hk h => by have hk2 : k < w3.heap.size := hk; rcases h with ⟨h1, h2⟩ | ⟨h1, h2⟩ <;> omega))
 replace BY := Aside0.mk (blk_kept BY.out hK (fun h => by rcases h with ⟨h1, h2⟩ | ⟨h1, h2⟩ <;> omega))
 replace RG := Aside0.mk (Kd.R_kept RG.out hK (fun k hk h => by have hk2 : w4.heap.size < k := hk; rcases h with ⟨h1, h2⟩ | ⟨h1, h2⟩ <;> omega))
 clear hB hK
 have hmk : decide (mk < 0) = false := decide_eq_false (by have := HMK.out; omega)
 go_wp2_with fail
 ((with_reducible refine (laws_eqIntS.calls k AG cG ps AW cW ps true _ (R_seen RG.out).2 (R_seen RG.out).1 (R_seen RW.out).2 (R_seen RW.out).1 HEQ.out).mono ?_); rintro e w10 ⟨rfl, hb⟩)
 replace hb := Drawn0.below hb
 replace HB := Aside0.mk (below_step HB.out (hb))
 replace BX := Aside0.mk (blk_below BX.out (hb))
 replace RW := Aside0.mk (Kd.R_below RW.out (hb))
 replace BY := Aside0.mk (blk_below BY.out (hb))
 replace RG := Aside0.mk (Kd.R_below RG.out (hb))
 clear hb
 clear hmk
 go_wp2_with fail
 ((with_reducible refine (laws_markIntS.calls k _ _ ps 1 mq ms w _ HB.out RG.out HMP.out).mono ?_); rintro e w11 ⟨rfl, hg, hB, hK⟩)
 clear RG
 replace HB := Aside0.mk hB
 replace BX := Aside0.mk (blk_kept BX.out hK (fun h => by have := L3.out; have := L34.out; have h2 : w4.heap.size < w.heap.size := h; omega))
 replace RW := Aside0.mk (Kd.R_kept RW.out hK (fun k hk h => by have hk2 : k < w3.heap.size := hk; have h2 : w4.heap.size < k := h; have := L34.out; omega))
 replace BY := Aside0.mk (blk_kept BY.out hK (fun h => by have h2 : w4.heap.size < w4.heap.size := h; omega))
 have RG := Aside0.mk hg
 clear hg hB hK
 go_wp2_with fail
 ((with_reducible refine (held_n HML.out (laws_heldIntS.calls k AG cG ms 1 mq _ (R_seen (by rw [HML.out]; exact RG.out)).2 (R_seen (by rw [HML.out]; exact RG.out)).1 HHD.out)).mono ?_); rintro e w12 ⟨rfl, hb⟩)
 replace hb := Drawn0.below hb
 replace HB := Aside0.mk (below_step HB.out (hb))
 replace BX := Aside0.mk (blk_below BX.out (hb))
 replace RW := Aside0.mk (Kd.R_below RW.out (hb))
 replace BY := Aside0.mk (blk_below BY.out (hb))
 replace RG := Aside0.mk (Kd.R_below RG.out (hb))
 clear hb
 have hmq : decide (mq < 0) = false := decide_eq_false (by have := HMQ.out; omega)
 have hx0 : w12.cell? ⟨w.heap.size, 0, none⟩ = some (.slice A0 pages.length c0) := (blk_cell BX.out 0).trans rfl
 have hx1 : w12.cell? ⟨w.heap.size, 1, none⟩ = some (.slice A1 late0.length c1) := (blk_cell BX.out 1).trans rfl
 go_wp2_with fail
 ((with_reducible refine (laws_toDisk.calls k A0 c0 pages A1 c1 late0 pages late _ (Kd.C_below HP.out HB.out) hc0 (Kd.C_below HL.out HB.out) hc1 HTO.out).mono ?_); rintro e w13 ⟨v6, v7, rfl, ho6, ho7, hb⟩)
 replace HB := Aside0.mk (below_step HB.out (hb))
 replace BX := Aside0.mk (blk_below BX.out (hb))
 replace RW := Aside0.mk (Kd.R_below RW.out (hb))
 replace BY := Aside0.mk (blk_below BY.out (hb))
 replace RG := Aside0.mk (Kd.R_below RG.out (hb))
 clear hb
 obtain ⟨X6, d6, rfl⟩ := Kd.R_slice ho6
 obtain ⟨X7, d7, rfl⟩ := Kd.R_slice ho7
 have RA := Aside0.mk (R_seen ho6)
 have RB := Aside0.mk (R_seen ho7)
 clear hx0 hx1 ho6 ho7
 go_wp2_with fail
 ((with_reducible refine (impl_PagesOf.calls X6 d6 pages X7 d7 late a1 ps ok _ RA.out.2 RA.out.1 RB.out.2 RB.out.1 HIM.out).mono ?_); rintro e w14 ⟨vh, rfl, hoh, hb⟩)
 replace HB := Aside0.mk (below_step HB.out (hb))
 replace BX := Aside0.mk (blk_below BX.out (hb))
 replace RW := Aside0.mk (Kd.R_below RW.out (hb))
 replace BY := Aside0.mk (blk_below BY.out (hb))
 replace RG := Aside0.mk (Kd.R_below RG.out (hb))
 clear hb
 clear RA RB
 obtain ⟨AH, cH, rfl⟩ := Kd.R_slice hoh
 have RH := Aside0.mk hoh
 clear hoh
 go_wp2_with fail
 ((with_reducible refine (laws_eqIntS.calls k AH cH ps AW cW ps true _ (R_seen RH.out).2 (R_seen RH.out).1 (R_seen RW.out).2 (R_seen RW.out).1 HEQ.out).mono ?_); rintro e w15 ⟨rfl, hb⟩)
 replace hb := Drawn0.below hb
 replace HB := Aside0.mk (below_step HB.out (hb))
 replace BX := Aside0.mk (blk_below BX.out (hb))
 replace RW := Aside0.mk (Kd.R_below RW.out (hb))
 replace BY := Aside0.mk (blk_below BY.out (hb))
 replace RG := Aside0.mk (Kd.R_below RG.out (hb))
 replace RH := Aside0.mk (Kd.R_below RH.out (hb))
 clear hb
 go_wp2_with fail
 ((with_reducible refine (held_n HML.out (laws_heldIntS.calls k AG cG ms 1 mq _ (R_seen (by rw [HML.out]; exact RG.out)).2 (R_seen (by rw [HML.out]; exact RG.out)).1 HHD.out)).mono ?_); rintro e w16 ⟨rfl, hb⟩)
 replace hb := Drawn0.below hb
 replace HB := Aside0.mk (below_step HB.out (hb))
 replace BX := Aside0.mk (blk_below BX.out (hb))
 replace RW := Aside0.mk (Kd.R_below RW.out (hb))
 replace BY := Aside0.mk (blk_below BY.out (hb))
 replace RG := Aside0.mk (Kd.R_below RG.out (hb))
 replace RH := Aside0.mk (Kd.R_below RH.out (hb))
 clear hb
 go_wp2
 go_ret
 exact ⟨rfl, HB.out⟩
theorem pages_same {rn : Int → S68 × Bool} (hg : RnG rn) (root : Int) : pgOf (tof rn root) = pgOf (look rn root) := by
 unfold tof look
 by_cases hr : root = 0
 ·rw [if_pos hr, if_pos hr]
  rfl
 ·rw [if_neg hr, if_neg hr]
  have h := sync hg 9 0 st0 ss0 root ⟨#[]⟩ ⟨#[]⟩ false ⟨rfl, rfl, rfl, rfl, rfl⟩
  rw [Int.zero_add] at h
  unfold pgOf
  rcases h with ⟨h1, h2⟩ | ⟨⟨s1, s2, s3, s4, s5⟩, _⟩
  ·rw [if_pos h1, if_pos h2]
  ·rw [s4, s5, s1]
theorem eqI_go (l : List Int) (hl : l.length ≤ 1048576) : ∀ (n i : Nat), i + n = l.length → laws_eqIntS.l0 (n + 1) l l (i : Int) = some true := by
 intro n
 induction n with
 | zero => intro i hi; rw [laws_eqIntS.l0, if_neg (by omega)]
 | succ n ih =>
  intro i hi
  rw [laws_eqIntS.l0, if_pos (by omega), if_pos (by omega), if_pos (by omega), if_pos rfl, wrap_in (by omega) (by omega), show (i : Int) + 1 = ((i + 1 : Nat) : Int) by omega]
  exact ih (i + 1) (by omega)
theorem eqI_ev (l : List Int) (hl : l.length ≤ 1048576) : Ev (fun k => laws_eqIntS.f k l l) true := by
 refine Ev.of (k := l.length + 1) (fun k => laws_eqIntS.mono _ _ k) ?_
 unfold laws_eqIntS.f
 rw [if_pos rfl]
 exact eqI_go l hl l.length 0 (by omega)
def marksI (n : Nat) : List Int := (List.range n).map fun (j : Nat) => 1 + (j : Int)
theorem marksI_len (n : Nat) : (marksI n).length = n := by simp [marksI]
theorem marksI_at (n i : Nat) (h : i < (marksI n).length) : (marksI n)[i] = 1 + (i : Int) := by simp [marksI]
theorem mkI_go (l : List Int) (hl : l.length ≤ 1048576) : ∀ (n i : Nat), i + n = l.length → laws_markIntS.l0 (n + 1) ((marksI l.length).take i ++ l.drop i) (1 + (i : Int)) (i : Int) = some (1 + (l.length : Int), marksI l.length) := by
 intro n
 induction n with
 | zero =>
  intro i hi
  have : i = l.length := by omega
  subst this
  rw [laws_markIntS.l0, if_neg (by simp [marksI_len]), List.drop_length, List.append_nil, List.take_of_length_le (by rw [marksI_len]; omega)]
 | succ n ih =>
  intro i hi
  have hlt : i < l.length := by omega
  have hm : i < (marksI l.length).length := by rw [marksI_len]; exact hlt
  have hti : ((marksI l.length).take i).length = i := by rw [List.length_take]; omega
  rw [laws_markIntS.l0, if_pos (by rw [List.length_append, hti, List.length_drop]; omega), if_pos (by omega), Int.toNat_natCast, wrap_in (by omega) (by omega), wrap_in (by omega) (by omega)]
  have h2 := set_front ((marksI l.length).take i) (l.drop (i + 1)) l[i] (1 + (i : Int))
  rw [hti, ← List.drop_eq_getElem_cons hlt] at h2
  rw [h2, ← marksI_at l.length i hm, List.take_append_getElem hm, marksI_at, show (1 : Int) + (i : Int) + 1 = 1 + ((i + 1 : Nat) : Int) by omega, show (i : Int) + 1 = ((i + 1 : Nat) : Int) by omega]
  exact ih (i + 1) (by omega)
theorem mkI_ev (l : List Int) (hl : l.length ≤ 1048576) : Ev (fun k => laws_markIntS.f k l 1) (1 + (l.length : Int), marksI l.length) := by
 refine Ev.of (k := l.length + 1) (fun k => laws_markIntS.mono _ _ k) ?_
 have := mkI_go l hl l.length 0 (by omega)
 unfold laws_markIntS.f
 simpa using this
theorem hdI_go (m : Nat) (hm : m ≤ 1048576) : ∀ (n i : Nat), i + n = m → laws_heldIntS.l0 (n + 1) (marksI m) (1 + (i : Int)) (i : Int) = some (1 + (m : Int)) := by
 intro n
 induction n with
 | zero =>
  intro i hi
  rw [laws_heldIntS.l0, if_neg (by rw [marksI_len]; omega), show i = m by omega]
 | succ n ih =>
  intro i hi
  have hlt : i < (marksI m).length := by rw [marksI_len]; omega
  rw [laws_heldIntS.l0, if_pos (by rw [marksI_len]; omega), if_pos (by omega), if_pos (by rw [rd_nat _ _ hlt, marksI_at]), wrap_in (by omega) (by omega), wrap_in (by omega) (by omega), show (1 : Int) + (i : Int) + 1 = 1 + ((i + 1 : Nat) : Int) by omega, show (i : Int) + 1 = ((i + 1 : Nat) : Int) by omega]
  exact ih (i + 1) (by omega)
theorem hdI_ev (m : Nat) (hm : m ≤ 1048576) : Ev (fun k => laws_heldIntS.f k (marksI m) 1) (1 + (m : Int)) := by
 refine Ev.of (k := m + 1) (fun k => laws_heldIntS.mono _ _ k) ?_
 have := hdI_go m hm m 0 (by omega)
 unfold laws_heldIntS.f
 simpa using this
theorem pagesOf_law (pages : List ByteArray) (late : List S187) (root : Int) (h1 : ∀ s ∈ pages, s.size ≤ 9223372036854775807) (h2 : pages.length ≤ 9223372036854775807) (h3 : ∀ s ∈ late, s.f1.size ≤ 9223372036854775807) (h4 : late.length ≤ 9223372036854775807) (A0 : Option Addr) (c0 : Nat) (A1 : Option Addr) (c1 : Nat) (w : World)
  (hp : Kd.C Kd.string w A0 pages.length pages) (hc0 : pages.length ≤ c0) (hl : Kd.C k187 w A1 late.length late) (hc1 : late.length ≤ c1) :
  Calls Try.prog 9 #[.agg #[.slice A0 pages.length c0, .slice A1 late.length c1], .int .i64 root] w fun e w' => e = .returned (.bool true) ∧ Below w.heap.size w w' := by
 obtain ⟨r, ⟨K0, er⟩, hr⟩ := szD_ev pages late h1 h2 h3 h4
 rcases hr with hr | ⟨hr, hs⟩
 ·exact FnExactPagesOf_small K0 A0 c0 pages A1 c1 late root r w hp hc0 hl hc1 (er K0 (Nat.le_refl _)) hr
 ·obtain ⟨K1, hto⟩ := toD_ev pages late hs
  have hl2 : (late.map conv).length ≤ 1048576 := by rw [List.length_map]; exact hs.2.1
  obtain ⟨rn, hrn⟩ := rnOf_ex (rnB_ex pages (late.map conv) hs.1.1 hs.1.2 (fun s hx => by
   obtain ⟨y, hy, rfl⟩ := List.mem_map.1 hx
   exact hs.2.2 y hy) hl2)
  have hb := rnOf_some hrn
  obtain ⟨pr, hpr⟩ : ∃ z, pgOf (tof rn root) = z := ⟨_, rfl⟩
  have hlen : pr.1.length ≤ 1048576 := by
   have := tof_pg hb.1.len root
   rw [← hpr]
   unfold pgOf
   split
   ·simp
   ·rw [srt_len]; omega
  have hi : impl_PagesOf.f pages (late.map conv) root = some pr := by unfold impl_PagesOf.f; rw [hrn, ← hpr]; rfl
  have hsp : spec_PagesOf.f pages (late.map conv) root = some pr := by unfold spec_PagesOf.f; rw [hrn, ← hpr, pages_same (rnB_good hb)]; rfl
  obtain ⟨ps, ok⟩ := pr
  obtain ⟨K2, heq⟩ := eqI_ev ps hlen
  obtain ⟨K3, hed⟩ := eqD_ev pages (late.map conv) hs.1.1 hl2
  obtain ⟨mk, mp, ml, ⟨K4, hmd⟩, hmk⟩ := mD_ev pages (late.map conv) hs.1.1 hl2
  obtain ⟨K5, hmp⟩ := mkI_ev ps hlen
  obtain ⟨K6, hhd⟩ := hdI_ev ps.length hlen
  obtain ⟨k, h0, h1, h2, h3, h4, h5, h6⟩ : ∃ k, K0 ≤ k ∧ K1 ≤ k ∧ K2 ≤ k ∧ K3 ≤ k ∧ K4 ≤ k ∧ K5 ≤ k ∧ K6 ≤ k := ⟨K0 + K1 + K2 + K3 + K4 + K5 + K6, by omega, by omega, by omega, by omega, by omega, by omega, by omega⟩
  exact FnExactPagesOf_walk k A0 c0 pages A1 c1 late root (late.map conv) r ps ok mk mp ml _ (marksI ps.length) w hp hc0 hl hc1 (er k h0) hr (hto k h1) hsp hi (heq k h2) (hed k h3) (hmd k h4) hmk (hmp k h5) (marksI_len _) (hhd k h6) (by omega)
end Go.Proofs.Ytapholbdjccapaa.PFnExactTreeOk
namespace Go.Proofs.Ytapholbdjccapaa.Head
set_option maxRecDepth 100000
def w1 : List Char := [104, 97, 114, 110, 101, 115, 115].map Char.ofNat
def w2 : List Char := [97, 53, 100, 48, 51, 50, 48, 56, 102, 98, 52, 49, 98, 49, 48, 54, 97, 56, 100, 52, 97, 49, 101, 100, 97, 54, 57, 56, 56, 52, 99, 52, 54, 102, 102, 97, 102, 101, 56, 102, 102, 98, 53, 57, 98, 55, 101, 57, 50, 50, 99, 56, 57, 54, 52, 97, 53, 53, 53, 100, 55, 99, 49, 101].map Char.ofNat
def w3 : List Char := [99, 117, 116].map Char.ofNat
def w4 : List Char := [97, 116, 32, 108, 111, 111, 112, 46, 101, 120, 97, 109, 112, 108, 101, 47, 103, 48, 48, 50, 52, 48, 47, 108, 97, 119, 115, 46, 70, 110, 69, 120, 97, 99, 116, 79, 108, 100, 101, 115, 116, 79, 102, 32, 108, 111, 111, 112, 46, 101, 120, 97, 109, 112, 108, 101, 47, 103, 48, 48, 50, 52, 48, 47, 108, 97, 119, 115, 46, 70, 110, 77, 101, 116, 97, 115, 32, 108, 111, 111, 112, 46, 101, 120, 97, 109, 112, 108, 101, 47, 103, 48, 48, 50, 52, 48, 47, 108, 97, 119, 115, 46, 70, 110, 78, 111, 100, 101, 115, 32, 108, 111, 111, 112, 46, 101, 120, 97, 109, 112, 108, 101, 47, 103, 48, 48, 50, 52, 48, 47, 108, 97, 119, 115, 46, 70, 110, 69, 120, 97, 99, 116, 84, 114, 101, 101, 79, 107, 32, 108, 111, 111, 112, 46, 101, 120, 97, 109, 112, 108, 101, 47, 103, 48, 48, 50, 52, 48, 47, 108, 97, 119, 115, 46, 70, 110, 69, 120, 97, 99, 116, 65, 108, 108, 80, 97, 105, 114, 115, 32, 108, 111, 111, 112, 46, 101, 120, 97, 109, 112, 108, 101, 47, 103, 48, 48, 50, 52, 48, 47, 108, 97, 119, 115, 46, 70, 110, 69, 120, 97, 99, 116, 80, 97, 105, 114, 115, 70, 114, 111, 109, 32, 108, 111, 111, 112, 46, 101, 120, 97, 109, 112, 108, 101, 47, 103, 48, 48, 50, 52, 48, 47, 108, 97, 119, 115, 46, 70, 110, 69, 120, 97, 99, 116, 80, 97, 103, 101, 115, 79, 102, 32, 108, 111, 111, 112, 46, 101, 120, 97, 109, 112, 108, 101, 47, 103, 48, 48, 50, 52, 48, 47, 108, 97, 119, 115, 46, 70, 110, 69, 120, 97, 99, 116, 80, 97, 103, 101, 115, 82, 105, 103, 104, 116].map Char.ofNat
def blank : Char := Char.ofNat 32
theorem cut_at (a r : List Char) (h : a.all (· != blank) = true) : wordsSigns (a ++ blank :: r) = a :: wordsSigns r := by
 induction a with
 | nil => rfl
 | cons c a ih =>
  simp only [List.all_cons, Bool.and_eq_true, bne_iff_ne] at h
  have e := ih h.2
  have hc : ∀ s, wordsSigns (c :: s) = match wordsSigns s with | w :: ws => (c :: w) :: ws | [] => [[c]] := by
   intro s
   conv => lhs; unfold wordsSigns
   split
   ·rename_i h0; cases h0
   ·rename_i h0
    injection h0 with h1 h2
    exact absurd h1 h.1
   ·rename_i h0 _ h1
    injection h1 with h2 h3
    subst h2
    subst h3
    rfl
  show wordsSigns (c :: (a ++ blank :: r)) = _
  rw [hc, e]
theorem io : Try.prog.initOrder = String.ofList (w1 ++ blank :: (w2 ++ blank :: (w3 ++ blank :: w4))) := by kernel_rfl
theorem words : wordsSigns Try.prog.initOrder.toList = w1 :: w2 :: w3 :: wordsSigns w4 := by
 rw [io, String.toList_ofList, cut_at _ _ (by kernel_rfl), cut_at _ _ (by kernel_rfl), cut_at _ _ (by kernel_rfl)]
theorem m0 : ((w1 == "harness".toList || w1 == "ownmain".toList) && isSumSigns w2) = true := by kernel_rfl
theorem m1 : (w3 == "gc".toList) = false := by kernel_rfl
theorem m2 : (w3 == "spec".toList) = false := by kernel_rfl
theorem m3 : (w3 == "cut".toList) = true := by kernel_rfl
theorem m4 : (w3 == "carried".toList) = false := by kernel_rfl
theorem m5 (R : List (List Char)) : ((w3 :: R).head? == some "cut".toList) = true := by kernel_rfl
theorem m5c (R : List (List Char)) : ((w3 :: R).head? == some "carried".toList) = false := by kernel_rfl
theorem m6 (R : List (List Char)) : stripLifts liftWords (w3 :: R) = ([], w3 :: R) := by kernel_rfl
theorem m7 : Try.prog.laysLater = false := by kernel_rfl
theorem m8 : Try.prog.bearsReflect = false := by kernel_rfl
theorem m9 : Try.prog.doorFits [] = true := by kernel_rfl
theorem behind (R : List (List Char)) : behindMainWord (w1 :: w2 :: R) = R := by
 show (if ((w1 == "harness".toList || w1 == "ownmain".toList) && isSumSigns w2) = true then R else w1 :: w2 :: R) = R
 rw [if_pos m0]
theorem beh : ∃ R, behindMainWord (wordsSigns Try.prog.initOrder.toList) = w3 :: R := ⟨wordsSigns w4, by rw [words, behind]⟩
theorem lifts_of (P : Program) (R : List (List Char)) (h : behindMainWord (wordsSigns P.initOrder.toList) = w3 :: R) : (false == P.liftsFinal) = true := by
 unfold Program.liftsFinal Program.headLifts
 rw [h]
 simp only [m5, m5c, m6]
 rfl
theorem may_of (P : Program) (R : List (List Char)) (h : behindMainWord (wordsSigns P.initOrder.toList) = w3 :: R) (h7 : P.laysLater = false) (h8 : P.bearsReflect = false) (h9 : P.doorFits [] = true) : P.mayEnter = true := by
 unfold Program.mayEnter
 rw [h]
 simp only [m1, m2, m4, m5, m6, h7, h8, h9]
 rfl
theorem made_of (P : Program) (R : List (List Char)) (h : behindMainWord (wordsSigns P.initOrder.toList) = w3 :: R) : (P.make == some Make.cut) = true := by
 unfold Program.make Program.headLifts
 rw [h]
 simp only [m1, m2, m3]
 rfl
theorem lifts : (false == Try.prog.liftsFinal) = true := by
 obtain ⟨R, h⟩ := beh
 exact lifts_of _ R h
theorem may : Try.prog.mayEnter = true := by
 obtain ⟨R, h⟩ := beh
 exact may_of _ R h m7 m8 m9
theorem made : (Try.prog.make == some Make.cut) = true := by
 obtain ⟨R, h⟩ := beh
 exact made_of _ R h
theorem laid : laidOutB Try.prog = true := by kernel_rfl
theorem maps : mapsRowed Try.prog = true := by kernel_rfl
theorem heard : Try.prog.stopsHeard = true := by kernel_rfl
theorem plain : (true == Try.prog.plainKeys) = true := by kernel_rfl
end Go.Proofs.Ytapholbdjccapaa.Head
namespace Go.Proofs.Ytapholbdjccapaa.Opened
open Go.RowKit Go.Deep Go.WideShapes Go.Proofs.YtapholbdjccapaaW.PrintWords
def Opens {α : Type} (P : Program) (t : TypeId) (d : Kd α) (ok : α → Prop) : Prop :=
 ∀ (H : Type) (enc : TypeId × Value → H) (w : World) (base : Nat) (spare : Nat → Bool) (held : Bool) (fuel : Nat) (cs : List Value) (x : DataW H × List MemPlace),
  DataW.trod enc P w base spare held fuel t cs = some x → ∃ y : α, d.K w y cs ∧ ok y
variable {P : Program}
theorem opens_int {t : TypeId} {k : IntKind} (hu : P.underlying t = some (.int k)) : Opens P t (Kd.int k) (fun _ => True) := by
 intro H enc w base spare held fuel cs x h
 obtain ⟨n, rfl, _, _⟩ := DataW.trod_int hu h
 exact ⟨n, rfl, trivial⟩
theorem opens_string {t : TypeId} (hu : P.underlying t = some .string) : Opens P t Kd.string (fun s => s.size ≤ 9223372036854775807) := by
 intro H enc w base spare held fuel cs x h
 obtain ⟨n, rfl, _, hs⟩ := DataW.trod_string hu h
 exact ⟨n, rfl, by unfold maxLen at hs; omega⟩
theorem list_of {α : Type} (n : Nat) (Q : Nat → α → Prop) (h : ∀ i, i < n → ∃ y, Q i y) : ∃ ys : List α, ys.length = n ∧ ∀ j p, ys[j]? = some p → Q j p := by
 induction n with
 | zero => exact ⟨[], rfl, fun j p h => by simp at h⟩
 | succ n ih =>
  obtain ⟨ys, hl, hy⟩ := ih (fun i hi => h i (by omega))
  obtain ⟨y, hq⟩ := h n (by omega)
  refine ⟨ys ++ [y], by simp [hl], fun j p hj => ?_⟩
  rcases Nat.lt_or_ge j n with hlt | hge
  ·rw [List.getElem?_append_left (by omega)] at hj
   exact hy j p hj
  ·have hj' : j = n := by
    have := (List.getElem?_eq_some_iff.1 hj).1
    rw [List.length_append, List.length_singleton] at this
    omega
   subst hj'
   have : y = p := by rw [List.getElem?_append_right (by omega), hl, Nat.sub_self] at hj; simpa using hj
   subst this
   exact hq
theorem opens_slice {t e : TypeId} {α : Type} {d : Kd α} {ok : α → Prop} (hu : P.underlying t = some (.slice e)) (he : Opens P e d ok) (hc : P.cellsOf e = d.sz) (n : Nat) : Opens P t (Kd.slice n d) (fun ys => ∀ y ∈ ys, ok y) := by
 intro H enc w base spare held fuel cs x h
 rcases open_slice hu h with ⟨rfl, _⟩ | ⟨a, len, cap, m, n', D, Pl, rfl, _, hl, hm, hmm, _, hel⟩
 ·exact ⟨[], ⟨none, 0, rfl, Nat.le_refl _, rfl, by simp, fun h => by simp at h⟩, fun y hy => by cases hy⟩
 ·have hlm : len ≤ m := by
   rw [hmm]
   split <;> omega
  obtain ⟨ys, hy, hq⟩ := list_of len (fun i y => ok y ∧ ∃ cs', w.cells? base (a.add (i * P.cellsOf e)) (P.cellsOf e) = some cs' ∧ d.K w y cs') (fun i hi => by
   obtain ⟨cs', h1, h2⟩ := hel i (by omega)
   obtain ⟨y, hy, hok⟩ := he _ enc w base spare held n' cs' _ h2
   exact ⟨y, hok, cs', h1, hy⟩)
  subst hy
  refine ⟨ys, ⟨some a, cap, rfl, hl, rfl, by unfold maxLen at hm; omega, fun _ => ⟨a, rfl, fun j p hj => ?_⟩⟩, fun y hy => ?_⟩
  ·obtain ⟨_, cs', h1, h2⟩ := hq j p hj
   obtain ⟨_, h3, h4⟩ := World.cells?_some h1
   refine ⟨cs', h3.trans hc, h2, fun i u hi => ?_⟩
   have hi' : i < P.cellsOf e := by
    have := (List.getElem?_eq_some_iff.1 hi).1
    omega
   have := h4 i hi'
   rw [Addr.add_add, hc] at this
   rw [this]
   exact hi
  ·obtain ⟨j, hj, rfl⟩ := List.getElem_of_mem hy
   exact (hq j _ (List.getElem?_eq_getElem hj)).1
def Parts {α : Type} (P : Program) (fs : List Field) (o : Nat) (d : Kd α) (ok : α → Prop) : Prop :=
 ∀ (H : Type) (enc : TypeId × Value → H) (w : World) (base : Nat) (spare : Nat → Bool) (held : Bool) (fuel : Nat) (cs : List Value), cs.length = o + d.sz →
  (∀ f ∈ fs, ∃ x : DataW H × List MemPlace, DataW.trod enc P w base spare held fuel f.type ((cs.drop f.offset).take (P.cellsOf f.type)) = some x) → ∃ y : α, d.K w y (cs.drop o) ∧ ok y
theorem parts_last {α : Type} {d : Kd α} {ok : α → Prop} {f : Field} {o : Nat} (hf : Opens P f.type d ok) (ho : f.offset = o) (hc : P.cellsOf f.type = d.sz) : Parts P [f] o d ok := by
 intro H enc w base spare held fuel cs hl h
 obtain ⟨x, hx⟩ := h f (by simp)
 rw [ho, hc, List.take_of_length_le (by rw [List.length_drop]; omega)] at hx
 exact hf _ enc w base spare held fuel _ x hx
theorem parts_cons {α β : Type} {d : Kd α} {ds : Kd β} {ok : α → Prop} {oks : β → Prop} {f : Field} {fs : List Field} {o o' : Nat} (hf : Opens P f.type d ok) (ho : f.offset = o) (hc : P.cellsOf f.type = d.sz) (hs : Parts P fs o' ds oks) (ho' : o' = o + d.sz) : Parts P (f :: fs) o (Kd.pair d ds) (fun p => ok p.1 ∧ oks p.2) := by
 intro H enc w base spare held fuel cs hl h
 subst ho'
 have hl' : cs.length = o + (d.sz + ds.sz) := hl
 obtain ⟨x, hx⟩ := h f (by simp)
 rw [ho, hc] at hx
 obtain ⟨y, hy, oy⟩ := hf _ enc w base spare held fuel _ x hx
 obtain ⟨z, hz, oz⟩ := hs _ enc w base spare held fuel cs (by omega) (fun g hg => h g (by simp [hg]))
 refine ⟨(y, z), ⟨(cs.drop o).take d.sz, cs.drop (o + d.sz), ?_, hy, hz⟩, oy, oz⟩
 rw [← List.drop_drop]
 exact (List.take_append_drop _ _).symm
theorem opens_struct {t : TypeId} {fs : Array Field} {α β : Type} {d : Kd α} {ok : α → Prop} (hu : P.underlying t = some (.struct fs)) (hp : Parts P fs.toList 0 d ok) (hc : P.cellsOf t = d.sz) (f : β → α) (g : α → β) (hg : ∀ y, f (g y) = y) : Opens P t (Kd.iso d f) (fun y => ok (f y)) := by
 intro H enc w base spare held fuel cs x h
 obtain ⟨xs, n, _, _, hl, hlen, hi⟩ := DataW.trod_struct hu h
 obtain ⟨y, hy, oy⟩ := hp _ enc w base spare held n cs (by omega) (fun fl hfl => by
  obtain ⟨i, hlt, he⟩ := List.getElem_of_mem hfl
  have hlt' : i < fs.size := by simpa using hlt
  have := hi i fl (by rw [Array.getElem?_eq_getElem hlt']; simpa using he)
  rw [List.getElem?_eq_getElem (by omega)] at this
  exact ⟨_, this⟩)
 refine ⟨g y, ?_, ?_⟩
 ·show d.K w (f (g y)) cs
  rw [hg]
  simpa using hy
 ·show ok (f (g y))
  rw [hg]
  exact oy
theorem arg_struct {t : TypeId} {fs : Array Field} {α : Type} {d : Kd α} {ok : α → Prop} (hu : P.underlying t = some (.struct fs)) (ho : Opens P t d ok) {H : Type} {enc : TypeId × Value → H} {w : World} {base b0 : Nat} {spare : Nat → Bool} {held : Bool} {r : Reach} {v : Value} {x : DataW H} {p : List MemPlace}
  (hv : Value.okWide P w r b0 t v) (h : DataW.Trod enc P w base spare held t v x p) : ∃ (y : α) (cs : List Value), v = .agg cs.toArray ∧ d.K w y cs ∧ ok y := by
 obtain ⟨cs, rfl, _⟩ := okWide_struct hu hv
 obtain ⟨fuel, hf⟩ := h
 obtain ⟨y, hy, oy⟩ := ho _ enc w base spare held fuel _ _ hf
 exact ⟨y, cs.toList, by simp, by simpa [Value.cells] using hy, oy⟩
end Go.Proofs.Ytapholbdjccapaa.Opened
