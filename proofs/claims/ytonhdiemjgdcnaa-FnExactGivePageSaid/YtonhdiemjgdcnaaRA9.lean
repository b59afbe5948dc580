import Derived.Test.YtonhdiemjgdcnaaRA8
import Derived.Outline
import Derived.ProofKit
import Derived.OpenShut
import Derived.Deep.Slices
set_option maxHeartbeats 64000000
set_option maxRecDepth 100000
set_option linter.unusedVariables false
set_option linter.unusedSimpArgs false
namespace Go.Proofs.Ytonhdiemjgdcnaa.PFnExactGivePage
open Go.RowKit Go.Proofs.YtonhdiemjgdcnaaW.PrintWords Go.Proofs.YtonhdiemjgdcnaaW.PrintLast Go.Proofs.YtonhdiemjgdcnaaW.PrintMore
attribute [local go_sem] max2_int min2_int max_two min_two max_three min_three max_four min_four
theorem rdOf_nat {α : Type} (d : α) (xs : List α) (k : Nat) (hk : k < xs.length) : rdOf d xs (k : Int) = xs[k] := by
 simp [rdOf, List.getD_eq_getElem?_getD, List.getElem?_eq_getElem hk]
theorem rd_nat (xs : List Int) (k : Nat) (hk : k < xs.length) : rd xs (k : Int) = xs[k] := by
 simp [rd, List.getD_eq_getElem?_getD, List.getElem?_eq_getElem hk]
theorem rd_T135_nat (xs : List S135) (k : Nat) (hk : k < xs.length) : rd_T135 xs (k : Int) = xs[k] := by
 simp [rd_T135, List.getD_eq_getElem?_getD, List.getElem?_eq_getElem hk]
theorem rd_T140_nat (xs : List S140) (k : Nat) (hk : k < xs.length) : rd_T140 xs (k : Int) = xs[k] := by
 simp [rd_T140, List.getD_eq_getElem?_getD, List.getElem?_eq_getElem hk]
theorem wrap_in {x : Int} (h1 : -9223372036854775808 ≤ x) (h2 : x ≤ 9223372036854775807) : wrap64 x = x := by unfold wrap64; omega
theorem szS_go (l : List ByteArray) (hs : ∀ s ∈ l, s.size ≤ 9223372036854775807) (hl : l.length ≤ 9223372036854775807) : ∀ (n i : Nat) (x : Int), i + n = l.length → 0 ≤ x → x ≤ 1048576 → ∃ r, laws_szStringS.l0 (n + 1) l x (i : Int) = some r ∧ (r < 0 ∨ (0 ≤ r ∧ r ≤ x ∧ ∀ j (hj : j < l.length), i ≤ j → (l[j].size : Int) ≤ x)) := by
 intro n
 induction n with
 | zero =>
  intro i x hi h0 h1
  refine ⟨x, ?_, .inr ⟨h0, Int.le_refl _, fun j hj h => by omega⟩⟩
  rw [laws_szStringS.l0, if_neg (by omega)]
 | succ n ih =>
  intro i x hi h0 h1
  have hlt : i < l.length := by omega
  have hsz := hs l[i] (List.getElem_mem hlt)
  rw [laws_szStringS.l0, if_pos (by omega), if_pos (by omega), rdOf_nat _ _ _ hlt, wrap_in (by omega) (by omega), wrap_in (by omega) (by omega)]
  by_cases hneg : x - (l[i].size : Int) < 0
  ·rw [if_pos hneg]
   exact ⟨-1, rfl, .inl (by omega)⟩
  ·rw [if_neg hneg]
   obtain ⟨r, h2, h3⟩ := ih (i + 1) (x - (l[i].size : Int)) (by omega) (by omega) (by omega)
   refine ⟨r, by rw [show (i : Int) + 1 = ((i + 1 : Nat) : Int) by omega]; exact h2, ?_⟩
   rcases h3 with h3 | ⟨h4, h5, h6⟩
   ·exact .inl h3
   ·refine .inr ⟨h4, by omega, fun j hj h => ?_⟩
    by_cases e : j = i
    ·subst e; omega
    ·have := h6 j hj (by omega); omega
theorem szS_ev (l : List ByteArray) (hs : ∀ s ∈ l, s.size ≤ 9223372036854775807) (hl : l.length ≤ 9223372036854775807) (x : Int) (h0 : 0 ≤ x) (h1 : x ≤ 1048576) : ∃ r, Ev (fun k => laws_szStringS.f k l x) r ∧ (r < 0 ∨ (0 ≤ r ∧ r ≤ x ∧ (l.length : Int) ≤ x ∧ ∀ s ∈ l, (s.size : Int) ≤ x)) := by
 by_cases hneg : x - (l.length : Int) < 0
 ·refine ⟨-1, Ev.of (k := 0) (fun k => laws_szStringS.mono _ _ k) ?_, .inl (by omega)⟩
  unfold laws_szStringS.f
  rw [wrap_in (by omega) (by omega), if_pos hneg]
 ·obtain ⟨r, h2, h3⟩ := szS_go l hs hl l.length 0 (x - (l.length : Int)) (by omega) (by omega) (by omega)
  refine ⟨r, Ev.of (k := l.length + 1) (fun k => laws_szStringS.mono _ _ k) ?_, ?_⟩
  ·unfold laws_szStringS.f
   rw [wrap_in (by omega) (by omega), if_neg hneg]
   exact h2
  ·rcases h3 with h3 | ⟨h4, h5, h6⟩
   ·exact .inl h3
   ·refine .inr ⟨h4, by omega, by omega, fun s hs => ?_⟩
    obtain ⟨j, hj, rfl⟩ := List.getElem_of_mem hs
    have := h6 j hj (Nat.zero_le _)
    omega
theorem szP_go (l : List S140) (hs : ∀ s ∈ l, s.f1.size ≤ 9223372036854775807) (hl : l.length ≤ 9223372036854775807) : ∀ (n i : Nat) (x : Int), i + n = l.length → 0 ≤ x → x ≤ 1048576 → ∃ r, laws_szPutS.l0 (n + 1) l x (i : Int) = some r ∧ (r < 0 ∨ (0 ≤ r ∧ r ≤ x ∧ ∀ j (hj : j < l.length), i ≤ j → (l[j].f1.size : Int) ≤ x)) := by
 intro n
 induction n with
 | zero =>
  intro i x hi h0 h1
  refine ⟨x, ?_, .inr ⟨h0, Int.le_refl _, fun j hj h => by omega⟩⟩
  rw [laws_szPutS.l0, if_neg (by omega)]
 | succ n ih =>
  intro i x hi h0 h1
  have hlt : i < l.length := by omega
  have hsz := hs l[i] (List.getElem_mem hlt)
  rw [laws_szPutS.l0, if_pos (by omega), if_pos (by omega), rd_T140_nat _ _ hlt, laws_szPut.f, wrap_in (x := x - _) (by omega) (by omega), wrap_in (x := (i : Int) + 1) (by omega) (by omega)]
  by_cases hneg : x - (l[i].f1.size : Int) < 0
  ·rw [if_pos hneg, Option.bind_some, if_pos (by omega)]
   exact ⟨-1, rfl, .inl (by omega)⟩
  ·rw [if_neg hneg, Option.bind_some, if_neg hneg]
   obtain ⟨r, h2, h3⟩ := ih (i + 1) (x - (l[i].f1.size : Int)) (by omega) (by omega) (by omega)
   refine ⟨r, by rw [show (i : Int) + 1 = ((i + 1 : Nat) : Int) by omega]; exact h2, ?_⟩
   rcases h3 with h3 | ⟨h4, h5, h6⟩
   ·exact .inl h3
   ·refine .inr ⟨h4, by omega, fun j hj h => ?_⟩
    by_cases e : j = i
    ·subst e; omega
    ·have := h6 j hj (by omega); omega
theorem szP_ev (l : List S140) (hs : ∀ s ∈ l, s.f1.size ≤ 9223372036854775807) (hl : l.length ≤ 9223372036854775807) (x : Int) (h0 : 0 ≤ x) (h1 : x ≤ 1048576) : ∃ r, Ev (fun k => laws_szPutS.f k l x) r ∧ (r < 0 ∨ (0 ≤ r ∧ r ≤ x ∧ (l.length : Int) ≤ x ∧ ∀ s ∈ l, (s.f1.size : Int) ≤ x)) := by
 by_cases hneg : x - (l.length : Int) < 0
 ·refine ⟨-1, Ev.of (k := 0) (fun k => laws_szPutS.mono _ _ k) ?_, .inl (by omega)⟩
  unfold laws_szPutS.f
  rw [wrap_in (by omega) (by omega), if_pos hneg]
 ·obtain ⟨r, h2, h3⟩ := szP_go l hs hl l.length 0 (x - (l.length : Int)) (by omega) (by omega) (by omega)
  refine ⟨r, Ev.of (k := l.length + 1) (fun k => laws_szPutS.mono _ _ k) ?_, ?_⟩
  ·unfold laws_szPutS.f
   rw [wrap_in (by omega) (by omega), if_neg hneg]
   exact h2
  ·rcases h3 with h3 | ⟨h4, h5, h6⟩
   ·exact .inl h3
   ·refine .inr ⟨h4, by omega, by omega, fun s hs => ?_⟩
    obtain ⟨j, hj, rfl⟩ := List.getElem_of_mem hs
    have := h6 j hj (Nat.zero_le _)
    omega
def Small (pages : List ByteArray) (late : List S140) : Prop := (pages.length ≤ 1048576 ∧ ∀ s ∈ pages, s.size ≤ 1048576) ∧ (late.length ≤ 1048576 ∧ ∀ s ∈ late, s.f1.size ≤ 1048576)
theorem set_front {α : Type} (l r : List α) (x y : α) : (l ++ x :: r).set l.length y = (l ++ [y]) ++ r := by
 rw [List.set_append_right _ _ (Nat.le_refl _), Nat.sub_self, List.set_cons_zero, List.append_assoc, List.singleton_append]
theorem toS_go (l : List ByteArray) (hl : l.length ≤ 1048576) : ∀ (n i : Nat), i + n = l.length → laws_toStringS.l0 (n + 1) l (l.take i ++ List.replicate n (⟨#[]⟩ : ByteArray)) (i : Int) = some l := by
 intro n
 induction n with
 | zero =>
  intro i hi
  rw [laws_toStringS.l0, if_neg (by omega), List.replicate_zero, List.append_nil, List.take_of_length_le (by omega)]
 | succ n ih =>
  intro i hi
  have hlt : i < l.length := by omega
  have hti : (l.take i).length = i := by rw [List.length_take]; omega
  rw [laws_toStringS.l0, if_pos (by omega), if_pos (by omega), if_pos (by simp; omega), rdOf_nat _ _ _ hlt, wrap_in (by omega) (by omega), Int.toNat_natCast, List.replicate_succ]
  have := set_front (l.take i) (List.replicate n (⟨#[]⟩ : ByteArray)) ⟨#[]⟩ l[i]
  rw [hti] at this
  rw [this, List.take_append_getElem hlt, show (i : Int) + 1 = ((i + 1 : Nat) : Int) by omega]
  exact ih (i + 1) (by omega)
theorem toS_ev (l : List ByteArray) (hl : l.length ≤ 1048576) : Ev (fun k => laws_toStringS.f k l) l := by
 refine Ev.of (k := l.length + 1) (fun k => laws_toStringS.mono _ k) ?_
 unfold laws_toStringS.f
 rw [if_pos (by omega), if_pos (by rw [Int.toNat_natCast]; omega), Int.toNat_natCast]
 have := toS_go l hl l.length 0 (by omega)
 simpa using this
def conv (x : S140) : S135 := ⟨x.f0, x.f1⟩
theorem toP_go (l : List S140) (hl : l.length ≤ 1048576) : ∀ (n i : Nat), i + n = l.length → laws_toPutS.l0 (n + 1) l ((l.map conv).take i ++ List.replicate n z135) (i : Int) = some (l.map conv) := by
 intro n
 induction n with
 | zero =>
  intro i hi
  rw [laws_toPutS.l0, if_neg (by omega), List.replicate_zero, List.append_nil, List.take_of_length_le (by rw [List.length_map]; omega)]
 | succ n ih =>
  intro i hi
  have hlt : i < l.length := by omega
  have hlt' : i < (l.map conv).length := by rw [List.length_map]; exact hlt
  have hti : ((l.map conv).take i).length = i := by rw [List.length_take, List.length_map]; omega
  rw [laws_toPutS.l0, if_pos (by omega), if_pos (by omega), rd_T140_nat _ _ hlt, laws_toPut.f, Option.bind_some, if_pos (by simp; omega), wrap_in (by omega) (by omega), Int.toNat_natCast, List.replicate_succ]
  have := set_front ((l.map conv).take i) (List.replicate n z135) z135 (conv l[i])
  rw [hti] at this
  show laws_toPutS.l0 (n + 1) l (((l.map conv).take i ++ z135 :: List.replicate n z135).set i (conv l[i])) _ = _
  rw [this, show conv l[i] = (l.map conv)[i] by rw [List.getElem_map], List.take_append_getElem hlt', show (i : Int) + 1 = ((i + 1 : Nat) : Int) by omega]
  exact ih (i + 1) (by omega)
theorem toP_ev (l : List S140) (hl : l.length ≤ 1048576) : Ev (fun k => laws_toPutS.f k l) (l.map conv) := by
 refine Ev.of (k := l.length + 1) (fun k => laws_toPutS.mono _ k) ?_
 unfold laws_toPutS.f
 rw [if_pos (by omega), if_pos (by rw [Int.toNat_natCast]; omega), Int.toNat_natCast]
 have := toP_go l hl l.length 0 (by omega)
 simpa using this
theorem toD_ev (pages : List ByteArray) (late : List S140) (h : Small pages late) : Ev (fun k => laws_toDisk.f k pages late) (pages, late.map conv) :=
 Ev.bind (toS_ev pages h.1.1) (Ev.bind (toP_ev late h.2.1) (Ev.now _))
theorem eqS_go (l : List ByteArray) (hl : l.length ≤ 2000000) : ∀ (n i : Nat), i + n = l.length → laws_eqStringS.l0 (n + 1) l l (i : Int) = some true := by
 intro n
 induction n with
 | zero => intro i hi; rw [laws_eqStringS.l0, if_neg (by omega)]
 | succ n ih =>
  intro i hi
  rw [laws_eqStringS.l0, if_pos (by omega), if_pos (by omega), if_pos (by omega), if_pos rfl, wrap_in (by omega) (by omega), show (i : Int) + 1 = ((i + 1 : Nat) : Int) by omega]
  exact ih (i + 1) (by omega)
theorem eqP_go (l : List S135) (hl : l.length ≤ 2000000) : ∀ (n i : Nat), i + n = l.length → laws_eqPutS.l0 (n + 1) l l (i : Int) = some true := by
 intro n
 induction n with
 | zero => intro i hi; rw [laws_eqPutS.l0, if_neg (by omega)]
 | succ n ih =>
  intro i hi
  rw [laws_eqPutS.l0, if_pos (by omega), if_pos (by omega), if_pos (by omega), laws_eqPut.f, if_pos rfl, if_pos rfl, Option.bind_some, if_pos rfl, wrap_in (by omega) (by omega), show (i : Int) + 1 = ((i + 1 : Nat) : Int) by omega]
  exact ih (i + 1) (by omega)
theorem eqD_ev (pages : List ByteArray) (late : List S135) (h1 : pages.length ≤ 2000000) (h2 : late.length ≤ 2000000) : Ev (fun k => laws_eqDisk.f k pages late pages late) true := by
 refine Ev.bind (a := true) (Ev.of (k := pages.length + 1) (fun k => laws_eqStringS.mono _ _ k) ?_) ?_
 ·unfold laws_eqStringS.f
  rw [if_pos rfl]
  exact eqS_go pages h1 pages.length 0 (by omega)
 ·simp only [if_true]
  refine Ev.bind (a := true) (Ev.of (k := late.length + 1) (fun k => laws_eqPutS.mono _ _ k) ?_) ?_
  ·unfold laws_eqPutS.f
   rw [if_pos rfl]
   exact eqP_go late h2 late.length 0 (by omega)
  ·simp only [if_true]
   exact Ev.now _
theorem eqI_go (l : List Int) (hl : l.length ≤ 2000000) : ∀ (n i : Nat), i + n = l.length → laws_eqIntS.l0 (n + 1) l l (i : Int) = some true := by
 intro n
 induction n with
 | zero => intro i hi; rw [laws_eqIntS.l0, if_neg (by omega)]
 | succ n ih =>
  intro i hi
  rw [laws_eqIntS.l0, if_pos (by omega), if_pos (by omega), if_pos (by omega), if_pos rfl, wrap_in (by omega) (by omega), show (i : Int) + 1 = ((i + 1 : Nat) : Int) by omega]
  exact ih (i + 1) (by omega)
theorem eqI_ev (l : List Int) (hl : l.length ≤ 2000000) : Ev (fun k => laws_eqIntS.f k l l) true := by
 refine Ev.of (k := l.length + 1) (fun k => laws_eqIntS.mono _ _ k) ?_
 unfold laws_eqIntS.f
 rw [if_pos rfl]
 exact eqI_go l hl l.length 0 (by omega)
theorem toI_go (l : List Int) (hl : l.length ≤ 1048576) : ∀ (n i : Nat), i + n = l.length → laws_toIntS.l0 (n + 1) l (l.take i ++ List.replicate n 0) (i : Int) = some l := by
 intro n
 induction n with
 | zero =>
  intro i hi
  rw [laws_toIntS.l0, if_neg (by omega), List.replicate_zero, List.append_nil, List.take_of_length_le (by omega)]
 | succ n ih =>
  intro i hi
  have hlt : i < l.length := by omega
  have hti : (l.take i).length = i := by rw [List.length_take]; omega
  rw [laws_toIntS.l0, if_pos (by omega), if_pos (by omega), if_pos (by simp; omega), rd_nat _ _ hlt, wrap_in (by omega) (by omega), Int.toNat_natCast, List.replicate_succ]
  have := set_front (l.take i) (List.replicate n (0 : Int)) 0 l[i]
  rw [hti] at this
  rw [this, List.take_append_getElem hlt, show (i : Int) + 1 = ((i + 1 : Nat) : Int) by omega]
  exact ih (i + 1) (by omega)
theorem toI_ev (l : List Int) (hl : l.length ≤ 1048576) : Ev (fun k => laws_toIntS.f k l) l := by
 refine Ev.of (k := l.length + 1) (fun k => laws_toIntS.mono _ k) ?_
 unfold laws_toIntS.f
 rw [if_pos (by omega), if_pos (by rw [Int.toNat_natCast]; omega), Int.toNat_natCast]
 have := toI_go l hl l.length 0 (by omega)
 simpa using this
theorem mt_go : ∀ (n : Nat) (a : Int) (x : ByteArray), 0 ≤ a → a < 10 ^ n → a ≤ 9223372036854775807 → x.size + n ≤ 1000 → ∃ t, laws_markText.l0 (n + 1) a x = some t := by
 intro n
 induction n with
 | zero =>
  intro a x h0 h1 _ h2
  rw [laws_markText.l0, if_neg (by omega), if_pos (by omega)]
  exact ⟨_, rfl⟩
 | succ n ih =>
  intro a x h0 h1 hb h2
  by_cases ha : a > 0
  ·rw [laws_markText.l0, if_pos ha, Option.bind_some, if_pos (by rw [strOfNums_size]; simp; omega)]
   have e : wrap64 (Int.tdiv a 10) = a / 10 := by rw [Int.tdiv_eq_ediv_of_nonneg h0]; exact wrap_in (by omega) (by omega)
   rw [e]
   refine ih (a / 10) _ (by omega) ?_ (by omega) ?_
   ·rw [Int.pow_succ] at h1
    omega
   ·rw [ByteArray.size_append, strOfNums_size]
    simp
    omega
  ·rw [laws_markText.l0, if_neg ha, if_pos (by omega)]
   exact ⟨_, rfl⟩
theorem mt_ex (a : Int) (h0 : 0 < a) (h1 : a < 1000000000000) : ∃ t, Ev (fun k => laws_markText.f k a) t := by
 obtain ⟨t, ht⟩ := mt_go 12 a ⟨#[]⟩ (by omega) (by simpa using h1) (by omega) (by decide)
 refine ⟨t, Ev.of (k := 13) (fun k => laws_markText.mono _ k) ?_⟩
 unfold laws_markText.f
 rw [if_neg (by omega)]
 exact ht
open Classical in
noncomputable def mt (a : Int) : ByteArray := if h : ∃ t, Ev (fun k => laws_markText.f k a) t then Classical.choose h else ⟨#[]⟩
theorem mt_ev (a : Int) (h0 : 0 < a) (h1 : a < 1000000000000) : Ev (fun k => laws_markText.f k a) (mt a) := by
 unfold mt
 rw [dif_pos (mt_ex a h0 h1)]
 exact Classical.choose_spec (mt_ex a h0 h1)
def INd (pages : List ByteArray) (late : List S140) : Prop := (∀ s ∈ pages, s.size ≤ 9223372036854775807) ∧ pages.length ≤ 9223372036854775807 ∧ (∀ s ∈ late, s.f1.size ≤ 9223372036854775807) ∧ late.length ≤ 9223372036854775807
theorem szDx (pages : List ByteArray) (late : List S140) (h : INd pages late) (x : Int) (h0 : 0 ≤ x) (hx : x ≤ 1048576) : ∃ r, Ev (fun k => laws_szDisk.f k pages late x) r ∧ (r < 0 ∨ (0 ≤ r ∧ r ≤ x ∧ Small pages late)) := by
 obtain ⟨h1, h2, h3, h4⟩ := h
 obtain ⟨a, ea, ha⟩ := szS_ev pages h1 h2 x h0 hx
 rcases ha with ha | ⟨a0, a1, a2, a3⟩
 ·exact ⟨-1, Ev.bind ea (by simp only [if_pos ha]; exact Ev.now _), .inl (by omega)⟩
 ·obtain ⟨b, eb, hb⟩ := szP_ev late h3 h4 a a0 (by omega)
  rcases hb with hb | ⟨b0, b1, b2, b3⟩
  ·exact ⟨-1, Ev.bind ea (by simp only [if_neg (show ¬ a < 0 by omega)]; exact Ev.bind eb (by simp only [if_pos hb]; exact Ev.now _)), .inl (by omega)⟩
  ·exact ⟨b, Ev.bind ea (by simp only [if_neg (show ¬ a < 0 by omega)]; exact Ev.bind eb (by simp only [if_neg (show ¬ b < 0 by omega)]; exact Ev.now _)), .inr ⟨b0, by omega, ⟨by omega, fun s hs => by have := a3 s hs; omega⟩, ⟨by omega, fun s hs => by have := b3 s hs; omega⟩⟩⟩
theorem szIx (l : List Int) (hl : l.length ≤ 9223372036854775807) (x : Int) (h0 : 0 ≤ x) (hx : x ≤ 1048576) : ∃ r, Ev (fun _ => laws_szIntS.f l x) r ∧ (r < 0 ∨ (0 ≤ r ∧ r ≤ x ∧ l.length ≤ 1048576)) := by
 unfold laws_szIntS.f
 rw [wrap_in (by omega) (by omega)]
 by_cases h : x - (l.length : Int) < 0
 ·exact ⟨-1, by rw [if_pos h]; exact Ev.now _, .inl (by omega)⟩
 ·exact ⟨_, by rw [if_neg h]; exact Ev.now _, .inr ⟨by omega, by omega, by omega⟩⟩
theorem sz_step {A : Nat → Option Int} {F : Nat → Int → Option Int} {x : Int} {P Q : Prop} (hA : ∃ r, Ev A r ∧ (r < 0 ∨ (0 ≤ r ∧ r ≤ x ∧ P))) (hF : ∀ y, 0 ≤ y → y ≤ x → ∃ r, Ev (fun k => F k y) r ∧ (r < 0 ∨ (0 ≤ r ∧ r ≤ y ∧ Q))) : ∃ r, Ev (fun k => (A k).bind fun t => if t < 0 then some (-1) else F k t) r ∧ (r < 0 ∨ (0 ≤ r ∧ r ≤ x ∧ P ∧ Q)) := by
 obtain ⟨a, ea, ha⟩ := hA
 rcases ha with ha | ⟨a0, a1, a2⟩
 ·exact ⟨-1, Ev.bind ea (by simp only [if_pos ha]; exact Ev.now _), .inl (by omega)⟩
 ·obtain ⟨b, eb, hb⟩ := hF a a0 a1
  refine ⟨b, Ev.bind ea (by simp only [if_neg (show ¬ a < 0 by omega)]; exact eb), ?_⟩
  rcases hb with hb | ⟨b0, b1, b2⟩
  ·exact .inl hb
  ·exact .inr ⟨b0, by omega, a2, b2⟩
theorem sz_end {A : Nat → Option Int} {x : Int} {P : Prop} (hA : ∃ r, Ev A r ∧ (r < 0 ∨ (0 ≤ r ∧ r ≤ x ∧ P))) : ∃ r, Ev (fun k => (A k).bind fun t => if t < 0 then some (-1) else some t) r ∧ (r < 0 ∨ (0 ≤ r ∧ r ≤ x ∧ P)) := by
 obtain ⟨a, ea, ha⟩ := hA
 rcases ha with ha | ⟨a0, a1, a2⟩
 ·exact ⟨-1, Ev.bind ea (by simp only [if_pos ha]; exact Ev.now _), .inl (by omega)⟩
 ·exact ⟨a, Ev.bind ea (by simp only [if_neg (show ¬ a < 0 by omega)]; exact Ev.now _), .inr ⟨a0, a1, a2⟩⟩
def INi (l : List Int) : Prop := l.length ≤ 9223372036854775807
theorem szWx (pages : List ByteArray) (late : List S140) (n : Int) (u g f : List Int) (hd : INd pages late) (hu : INi u) (hg : INi g) (hf : INi f) (x : Int) (h0 : 0 ≤ x) (hx : x ≤ 1048576) : ∃ r, Ev (fun k => laws_szWork.f k pages late n u g f x) r ∧ (r < 0 ∨ (0 ≤ r ∧ r ≤ x ∧ Small pages late ∧ u.length ≤ 1048576 ∧ g.length ≤ 1048576 ∧ f.length ≤ 1048576)) := by
 unfold laws_szWork.f
 exact sz_step (szDx pages late hd x h0 hx) fun y y0 y1 => sz_step (szIx u hu y y0 (by omega)) fun z z0 z1 => sz_step (szIx g hg z z0 (by omega)) fun t t0 t1 => sz_end (szIx f hf t t0 (by omega))
theorem toW_ev (pages : List ByteArray) (late : List S140) (n : Int) (u g f : List Int) (hd : Small pages late) (hu : u.length ≤ 1048576) (hg : g.length ≤ 1048576) (hf : f.length ≤ 1048576) : Ev (fun k => laws_toWork.f k pages late n u g f) (pages, late.map conv, n, u, g, f) := by
 unfold laws_toWork.f
 exact Ev.bind (toD_ev pages late hd) (Ev.bind (toI_ev u hu) (Ev.bind (toI_ev g hg) (Ev.bind (toI_ev f hf) (Ev.now _))))
theorem tru {F : Nat → Option Bool} {G : Nat → Option Bool} (h : Ev F true) (h2 : Ev G true) : Ev (fun k => (F k).bind fun t => if t = true then G k else none) true := Ev.bind h (by simp only [if_true]; exact h2)
theorem eqW_ev (pages : List ByteArray) (late : List S135) (n : Int) (u g f : List Int) (h1 : pages.length ≤ 2000000) (h2 : late.length ≤ 2000000) (hu : u.length ≤ 2000000) (hg : g.length ≤ 2000000) (hf : f.length ≤ 2000000) : Ev (fun k => laws_eqWork.f k pages late n u g f pages late n u g f) true := by
 unfold laws_eqWork.f
 refine tru (eqD_ev pages late h1 h2) ?_
 simp only [if_true]
 exact tru (eqI_ev u hu) (tru (eqI_ev g hg) (tru (eqI_ev f hf) (Ev.now _)))
theorem rd135 (xs : List S135) (i : Nat) (h : i < xs.length) : rd_T135 xs (i : Int) = xs[i] := rd_T135_nat xs i h
theorem mhS : ∀ (n i : Nat) (l : List ByteArray) (a : Int), i + n = l.length → 0 < a → a + n < 1000000000 → l.length ≤ 2000000 → ∃ l', Ev (fun k => laws_markStringS.l0 k l a (i : Int)) (a + n, l') ∧ l'.length = l.length ∧ (∀ j, j < i → l'[j]? = l[j]?) ∧ Ev (fun k => laws_heldStringS.l0 k l' a (i : Int)) (a + n) := by
 intro n
 induction n with
 | zero =>
  intro i l a hi h0 h1 hl
  refine ⟨l, Ev.step (f := fun _ => some (a + ((0 : Nat) : Int), l)) (fun k => ?_) (Ev.now _), rfl, fun _ _ => rfl, Ev.step (f := fun _ => some (a + ((0 : Nat) : Int))) (fun k => ?_) (Ev.now _)⟩
  ·rw [laws_markStringS.l0, if_neg (by omega)]
   simp
  ·rw [laws_heldStringS.l0, if_neg (by omega)]
   simp
 | succ n ih =>
  intro i l a hi h0 h1 hl
  obtain ⟨l', e1, e2, e3, e4⟩ := ih (i + 1) (l.set i (mt a)) (a + 1) (by rw [List.length_set]; omega) (by omega) (by omega) (by rw [List.length_set]; exact hl)
  rw [List.length_set] at e2
  have hat : l'[i]? = some (mt a) := by rw [e3 i (Nat.lt_succ_self i), List.getElem?_set_self (by omega)]
  have hlt : i < l'.length := by omega
  have hget : l'[i] = mt a := by rw [List.getElem?_eq_getElem hlt] at hat; exact Option.some.inj hat
  have hn : a + 1 + (n : Int) = a + ((n + 1 : Nat) : Int) := by omega
  rw [hn] at e1 e4
  refine ⟨l', Ev.step (f := fun k => (laws_markText.f k a).bind fun t => laws_markStringS.l0 k (l.set i t) (a + 1) ((i + 1 : Nat) : Int)) (fun k => ?_) (Ev.bind (mt_ev a h0 (by omega)) e1), e2, fun j hj => ?_, Ev.step (f := fun k => (laws_markText.f k a).bind fun t => if (mt a).toList = t.toList then laws_heldStringS.l0 k l' (a + 1) ((i + 1 : Nat) : Int) else none) (fun k => ?_) (Ev.bind (mt_ev a h0 (by omega)) (by simp only [if_true]; exact e4))⟩
  ·rw [laws_markStringS.l0, if_pos (by omega)]
   congr 1
   funext t
   rw [if_pos (by omega), wrap_in (by omega) (by omega), wrap_in (by omega) (by omega), Int.toNat_natCast]
   rfl
  ·rw [e3 j (by omega), List.getElem?_set_ne (by omega)]
  ·rw [laws_heldStringS.l0, if_pos (by omega), if_pos (by omega), rdOf_nat _ _ _ hlt, hget, wrap_in (x := a + 1) (by omega) (by omega), wrap_in (x := (i : Int) + 1) (by omega) (by omega)]
   rfl
theorem mhP : ∀ (n i : Nat) (l : List S135) (a : Int), i + n = l.length → 0 < a → a + 2 * n < 1000000000 → l.length ≤ 2000000 → ∃ l', Ev (fun k => laws_markPutS.l0 k l a (i : Int)) (a + 2 * n, l') ∧ l'.length = l.length ∧ (∀ j, j < i → l'[j]? = l[j]?) ∧ Ev (fun k => laws_heldPutS.l0 k l' a (i : Int)) (a + 2 * n) := by
 intro n
 induction n with
 | zero =>
  intro i l a hi h0 h1 hl
  refine ⟨l, Ev.step (f := fun _ => some (a + 2 * ((0 : Nat) : Int), l)) (fun k => ?_) (Ev.now _), rfl, fun _ _ => rfl, Ev.step (f := fun _ => some (a + 2 * ((0 : Nat) : Int))) (fun k => ?_) (Ev.now _)⟩
  ·rw [laws_markPutS.l0, if_neg (by omega)]
   simp
  ·rw [laws_heldPutS.l0, if_neg (by omega)]
   simp
 | succ n ih =>
  intro i l a hi h0 h1 hl
  obtain ⟨l1, hl1⟩ : ∃ z, z = l.set i (⟨a, (rd_T135 l i).f1⟩ : S135) := ⟨_, rfl⟩
  have hs : l1.length = l.length := by rw [hl1, List.length_set]
  have h10 : (rd_T135 l1 i).f0 = a := by
   rw [rd135 l1 i (by omega)]
   simp [hl1]
  obtain ⟨l', e1, e2, e3, e4⟩ := ih (i + 1) (l1.set i (⟨a, mt (a + 1)⟩ : S135)) (a + 2) (by rw [List.length_set, hs]; omega) (by omega) (by omega) (by rw [List.length_set, hs]; exact hl)
  rw [List.length_set, hs] at e2
  have hlt : i < l'.length := by omega
  have hat : l'[i]? = some (⟨a, mt (a + 1)⟩ : S135) := by rw [e3 i (Nat.lt_succ_self i), List.getElem?_set_self (by omega)]
  have hget : l'[i] = (⟨a, mt (a + 1)⟩ : S135) := by rw [List.getElem?_eq_getElem hlt] at hat; exact Option.some.inj hat
  have hn : a + 2 + 2 * (n : Int) = a + 2 * ((n + 1 : Nat) : Int) := by omega
  rw [hn] at e1 e4
  refine ⟨l', Ev.step (f := fun k => (laws_markText.f k (a + 1)).bind fun t => laws_markPutS.l0 k (l1.set i (⟨a, t⟩ : S135)) (a + 2) ((i + 1 : Nat) : Int)) (fun k => ?_) (Ev.bind (mt_ev (a + 1) (by omega) (by omega)) e1), e2, fun j hj => ?_, Ev.step (f := fun k => (laws_markText.f k (a + 1)).bind fun t => if (mt (a + 1)).toList = t.toList then laws_heldPutS.l0 k l' (a + 2) ((i + 1 : Nat) : Int) else none) (fun k => ?_) (Ev.bind (mt_ev (a + 1) (by omega) (by omega)) (by simp only [if_true]; exact e4))⟩
  ·rw [laws_markPutS.l0, if_pos (by omega), if_pos (by omega), Option.bind_some, Int.toNat_natCast, ← hl1, h10, wrap_in (x := a + 1) (by omega) (by omega), wrap_in (x := a + 1 + 1) (by omega) (by omega), wrap_in (x := (i : Int) + 1) (by omega) (by omega), show a + 1 + 1 = a + 2 by omega]
   rfl
  ·rw [e3 j (by omega), List.getElem?_set_ne (by omega), hl1, List.getElem?_set_ne (by omega)]
  ·rw [laws_heldPutS.l0, if_pos (by omega), if_pos (by omega), rd135 _ _ hlt, hget, if_pos rfl, wrap_in (x := a + 1) (by omega) (by omega), wrap_in (x := a + 1 + 1) (by omega) (by omega), wrap_in (x := (i : Int) + 1) (by omega) (by omega), show a + 1 + 1 = a + 2 by omega]
   rfl
theorem mhI : ∀ (n i : Nat) (l : List Int) (a : Int), i + n = l.length → 0 < a → a + n < 1000000000 → l.length ≤ 2000000 → ∃ l', Ev (fun k => laws_markIntS.l0 k l a (i : Int)) (a + n, l') ∧ l'.length = l.length ∧ (∀ j, j < i → l'[j]? = l[j]?) ∧ Ev (fun k => laws_heldIntS.l0 k l' a (i : Int)) (a + n) := by
 intro n
 induction n with
 | zero =>
  intro i l a hi h0 h1 hl
  refine ⟨l, Ev.step (f := fun _ => some (a + ((0 : Nat) : Int), l)) (fun k => ?_) (Ev.now _), rfl, fun _ _ => rfl, Ev.step (f := fun _ => some (a + ((0 : Nat) : Int))) (fun k => ?_) (Ev.now _)⟩
  ·rw [laws_markIntS.l0, if_neg (by omega)]
   simp
  ·rw [laws_heldIntS.l0, if_neg (by omega)]
   simp
 | succ n ih =>
  intro i l a hi h0 h1 hl
  obtain ⟨l', e1, e2, e3, e4⟩ := ih (i + 1) (l.set i a) (a + 1) (by rw [List.length_set]; omega) (by omega) (by omega) (by rw [List.length_set]; exact hl)
  rw [List.length_set] at e2
  have hat : l'[i]? = some a := by rw [e3 i (Nat.lt_succ_self i), List.getElem?_set_self (by omega)]
  have hlt : i < l'.length := by omega
  have hget : l'[i] = a := by rw [List.getElem?_eq_getElem hlt] at hat; exact Option.some.inj hat
  have hn : a + 1 + (n : Int) = a + ((n + 1 : Nat) : Int) := by omega
  rw [hn] at e1 e4
  refine ⟨l', Ev.step (f := fun k => laws_markIntS.l0 k (l.set i a) (a + 1) ((i + 1 : Nat) : Int)) (fun k => ?_) e1, e2, fun j hj => ?_, Ev.step (f := fun k => laws_heldIntS.l0 k l' (a + 1) ((i + 1 : Nat) : Int)) (fun k => ?_) e4⟩
  ·rw [laws_markIntS.l0, if_pos (by omega), if_pos (by omega), wrap_in (by omega) (by omega), wrap_in (by omega) (by omega), Int.toNat_natCast]
   rfl
  ·rw [e3 j (by omega), List.getElem?_set_ne (by omega)]
  ·rw [laws_heldIntS.l0, if_pos (by omega), if_pos (by omega), rd_nat _ _ hlt, hget, if_pos rfl, wrap_in (x := a + 1) (by omega) (by omega), wrap_in (x := (i : Int) + 1) (by omega) (by omega)]
   rfl
theorem mhI_ev (l : List Int) (a : Int) (h0 : 0 < a) (h1 : a + l.length < 1000000000) (hl : l.length ≤ 2000000) : ∃ l', Ev (fun k => laws_markIntS.f k l a) (a + l.length, l') ∧ Ev (fun k => laws_heldIntS.f k l' a) (a + l.length) := by
 obtain ⟨l', e1, _, _, e4⟩ := mhI l.length 0 l a (by omega) h0 h1 hl
 exact ⟨l', e1, e4⟩
theorem mhD_ev (p : List ByteArray) (q : List S135) (a : Int) (h0 : 0 < a) (h1 : a < 100000000) (hp : p.length ≤ 2000000) (hq : q.length ≤ 2000000) : ∃ p' q', Ev (fun k => laws_markDisk.f k p q a) (a + p.length + 2 * q.length, p', q') ∧ Ev (fun k => laws_heldDisk.f k p' q' a) (a + p.length + 2 * q.length) := by
 obtain ⟨p', e1, _, _, e4⟩ := mhS p.length 0 p a (by omega) h0 (by omega) hp
 obtain ⟨q', g1, _, _, g4⟩ := mhP q.length 0 q (a + p.length) (by omega) (by omega) (by omega) hq
 refine ⟨p', q', Ev.bind e1 (Ev.bind g1 (Ev.now _)), ?_⟩
 refine Ev.bind e4 ?_
 simp only [if_neg (show ¬ a + (p.length : Int) < 0 by omega)]
 refine Ev.bind g4 ?_
 simp only [if_neg (show ¬ a + (p.length : Int) + 2 * (q.length : Int) < 0 by omega)]
 exact Ev.now _
theorem hld {F : Nat → Option Int} {G : Nat → Int → Option Int} {x r : Int} (h : Ev F x) (h0 : 0 ≤ x) (h2 : Ev (fun k => G k x) r) : Ev (fun k => (F k).bind fun t => if t < 0 then none else G k t) r := Ev.bind h (by simp only [if_neg (show ¬ x < 0 by omega)]; exact h2)
end Go.Proofs.Ytonhdiemjgdcnaa.PFnExactGivePage
namespace Go.Proofs.Ytonhdiemjgdcnaa.Own
open Go.RowKit Go.Proofs.YtonhdiemjgdcnaaW.PrintWords Go.Proofs.YtonhdiemjgdcnaaW.PrintLast Go.Proofs.YtonhdiemjgdcnaaW.PrintMore
theorem tagQ {α : Type} {d : Kd α} {f : Nat → Nat} {e base : Nat} {w : World} {ok : Nat → Prop} {v : Value} {xs : List α} (h : (Kd.tag f d).Q e w base ok v xs.zipIdx) : d.Q e w base ok v xs := by
 obtain ⟨h0, inner, ho, hr⟩ := h
 rw [List.length_zipIdx] at ho
 exact ⟨h0, inner, ho, by have := hr.1; rw [List.length_zipIdx] at this; exact this, fun j p hj => d.M_mono (fun _ hk => ⟨hk.1.1, hk.1.2⟩) (hr.2 j (p, j) (Kd.zip_at hj))⟩
def apair {α β : Type} (a : Kd α) (b : Kd β) : Kd (α × β) where
 sz := a.sz + b.sz
 E := a.E ++ b.E
 K := fun w x cs => ∃ c0 c1, cs = c0 ++ c1 ∧ a.K w x.1 c0 ∧ b.K w x.2 c1
 M := fun w base ok x cs => ∃ c0 c1, ∃ f : Nat → Bool, cs = c0 ++ c1 ∧ a.M w base (fun k => ok k ∧ f k = true) x.1 c0 ∧ b.M w base (fun k => ok k ∧ f k = false) x.2 c1
 K_len := by
  rintro w x cs ⟨c0, c1, rfl, h0, h1⟩
  rw [List.length_append, a.K_len h0, b.K_len h1]
 K_one := by
  rintro w x cs ⟨c0, c1, rfl, h0, h1⟩ u hu
  rcases List.mem_append.1 hu with hu | hu
  ·exact a.K_one h0 u hu
  ·exact b.K_one h1 u hu
 K_below := by
  rintro w w1 x cs hb ⟨c0, c1, rfl, h0, h1⟩
  exact ⟨c0, c1, rfl, a.K_below hb h0, b.K_below hb h1⟩
 K_of_M := by
  rintro w base ok x cs ⟨c0, c1, f, rfl, h0, h1⟩
  exact ⟨c0, c1, rfl, a.K_of_M h0, b.K_of_M h1⟩
 M_mono := by
  rintro w base ok ok' x cs hok ⟨c0, c1, f, rfl, h0, h1⟩
  exact ⟨c0, c1, f, rfl, a.M_mono (fun k hk => ⟨hok k hk.1, hk.2⟩) h0, b.M_mono (fun k hk => ⟨hok k hk.1, hk.2⟩) h1⟩
 M_bound := by
  rintro w base ok x cs ⟨c0, c1, f, rfl, h0, h1⟩
  refine ⟨c0, c1, f, rfl, a.M_mono ?_ (a.M_bound h0), b.M_mono ?_ (b.M_bound h1)⟩
  ·rintro k ⟨⟨h2, h2'⟩, h3, h4, q, hq, hc⟩
   exact ⟨⟨h2, h3, h4, q, List.mem_append_left _ hq, hc⟩, h2'⟩
  ·rintro k ⟨⟨h2, h2'⟩, h3, h4, q, hq, hc⟩
   exact ⟨⟨h2, h3, h4, q, List.mem_append_right _ hq, hc⟩, h2'⟩
 M_move := by
  rintro w w1 base ok x cs hm ⟨c0, c1, f, rfl, h0, h1⟩
  exact ⟨c0, c1, f, rfl, a.M_move (fun k hk => hm k hk.1) h0, b.M_move (fun k hk => hm k hk.1) h1⟩
 M_lower := by
  rintro w base base' ok x cs hb ⟨c0, c1, f, rfl, h0, h1⟩
  exact ⟨c0, c1, f, rfl, a.M_lower hb h0, b.M_lower hb h1⟩
def arow {α : Type} (e : Nat) (d : Kd α) : Kd (List α) where
 sz := 1
 E := e :: d.E
 K := fun w xs cs => ∃ A c, cs = [.slice A xs.length c] ∧ xs.length ≤ c ∧ d.C w A xs.length xs
 M := fun w base ok xs cs => ∃ v, ∃ f : Nat → Nat, cs = [v] ∧ (Kd.tag f d).Q e w base ok v xs.zipIdx
 K_len := by
  rintro w x cs ⟨A, c, rfl, _⟩
  rfl
 K_one := by
  rintro w x cs ⟨A, c, rfl, _⟩ u hu
  rw [List.mem_singleton.1 hu]
  rfl
 K_below := by
  rintro w w1 x cs hb ⟨A, c, rfl, hl, hr⟩
  exact ⟨A, c, rfl, hl, Kd.C_below hr hb⟩
 K_of_M := by
  rintro w base ok x cs ⟨v, f, rfl, h⟩
  obtain ⟨A, c, rfl, hl, hr⟩ := Kd.Q_reads (tagQ h)
  exact ⟨A, c, rfl, hl, hr⟩
 M_mono := by
  rintro w base ok ok' x cs hok ⟨v, f, rfl, h⟩
  exact ⟨v, f, rfl, Kd.Q_mono h hok⟩
 M_bound := by
  rintro w base ok x cs ⟨v, f, rfl, h⟩
  exact ⟨v, f, rfl, Kd.Q_bound h⟩
 M_move := by
  rintro w w1 base ok x cs hm ⟨v, f, rfl, h⟩
  exact ⟨v, f, rfl, Kd.Q_move h hm⟩
 M_lower := by
  rintro w base base' ok x cs hb ⟨v, f, rfl, h⟩
  exact ⟨v, f, rfl, Kd.Q_lower h hb⟩
theorem flatM {α : Type} {d : Kd α} (hE : d.E = []) {w : World} {base : Nat} {ok ok' : Nat → Prop} {x : α} {cs : List Value} (h : d.M w base ok x cs) : d.M w base ok' x cs :=
 d.M_mono (fun k hk => by
  obtain ⟨_, _, _, q, hq, _⟩ := hk
  rw [hE] at hq
  cases hq) (d.M_bound h)
theorem arow_of_Q {α : Type} {d : Kd α} (hE : d.E = []) {e base : Nat} {w : World} {ok : Nat → Prop} {v : Value} {xs : List α} (h : d.Q e w base ok v xs) : (arow e d).M w base ok xs [v] := by
 obtain ⟨h0, inner, ho, hr⟩ := h
 refine ⟨v, fun _ => 0, rfl, h0, inner, by rw [List.length_zipIdx]; exact ho, by rw [List.length_zipIdx]; exact hr.1, fun j p hj => ?_⟩
 rw [List.getElem?_zipIdx] at hj
 obtain ⟨a, ha, rfl⟩ := Option.map_eq_some_iff.1 hj
 exact flatM hE (hr.2 j a ha)
def srow {α : Type} (e : Nat) (d : Kd α) : Kd (List α) where
 sz := 1
 E := e :: d.E
 K := fun w xs cs => ∃ A c, cs = [.slice A xs.length c] ∧ xs.length ≤ c ∧ d.C w A xs.length xs
 M := fun w base ok xs cs => ∃ v, cs = [v] ∧ Kd.S d e w base ok v xs
 K_len := by
  rintro w x cs ⟨A, c, rfl, _⟩
  rfl
 K_one := by
  rintro w x cs ⟨A, c, rfl, _⟩ u hu
  rw [List.mem_singleton.1 hu]
  rfl
 K_below := by
  rintro w w1 x cs hb ⟨A, c, rfl, hl, hr⟩
  exact ⟨A, c, rfl, hl, Kd.C_below hr hb⟩
 K_of_M := by
  rintro w base ok x cs ⟨v, rfl, h⟩
  obtain ⟨A, c, rfl, hl, hr⟩ := Kd.R_reads (Kd.S_R h)
  exact ⟨A, c, rfl, hl, hr⟩
 M_mono := by
  rintro w base ok ok' x cs hok ⟨v, rfl, h⟩
  exact ⟨v, rfl, Kd.S_mono h hok⟩
 M_bound := by
  rintro w base ok x cs ⟨v, rfl, h⟩
  exact ⟨v, rfl, Kd.S_bound h⟩
 M_move := by
  rintro w w1 base ok x cs hm ⟨v, rfl, h⟩
  exact ⟨v, rfl, Kd.S_move h hm⟩
 M_lower := by
  rintro w base base' ok x cs hb ⟨v, rfl, h⟩
  exact ⟨v, rfl, Kd.S_lower h hb⟩
theorem srow_of_R {α : Type} {d : Kd α} (hE : d.E = []) {e base : Nat} {w : World} {ok : Nat → Prop} {v : Value} {xs : List α} (h : d.R e w base ok v xs) : (srow e d).M w base (fun k => some k = v.ownBlock) xs [v] := by
 refine ⟨v, rfl, fun _ => 0, ?_⟩
 obtain ⟨h0, inner, ho, hr⟩ := Kd.R_tight hE h
 refine ⟨h0, inner, by rw [List.length_zipIdx]; exact ho, by rw [List.length_zipIdx]; exact hr.1, fun j p hj => ?_⟩
 rw [List.getElem?_zipIdx] at hj
 obtain ⟨a, ha, rfl⟩ := Option.map_eq_some_iff.1 hj
 exact flatM hE (hr.2 j a ha)
theorem Q_tight {α : Type} {d : Kd α} (hE : d.E = []) {e base : Nat} {w : World} {ok : Nat → Prop} {v : Value} {xs : List α} (h : d.Q e w base ok v xs) : d.Q e w base (fun k => some k = v.ownBlock) v xs := by
 obtain ⟨h0, inner, ho, hr⟩ := h
 exact ⟨fun k hk => hk.symm, inner, ho, hr.imp_ (fun p c hp => flatM hE hp)⟩
open Classical in
theorem apair_mk {α β : Type} {a : Kd α} {b : Kd β} {w : World} {base : Nat} {ok okA okB : Nat → Prop} {x : α} {y : β} {c0 c1 : List Value} (ha : a.M w base okA x c0) (hb : b.M w base okB y c1) (hA : ∀ k, okA k → ok k) (hB : ∀ k, okB k → ok k) (hd : ∀ k, okA k → ¬ okB k) :
  (apair a b).M w base ok (x, y) (c0 ++ c1) := by
 refine ⟨c0, c1, fun k => decide (okA k), rfl, a.M_mono (fun k hk => ⟨hA k hk, decide_eq_true hk⟩) ha, b.M_mono (fun k hk => ⟨hB k hk, decide_eq_false (fun h => hd k h hk)⟩) hb⟩
theorem apair_open {α β : Type} {a : Kd α} {b : Kd β} {w : World} {base : Nat} {ok : Nat → Prop} {x : α} {y : β} {cs : List Value} (h : (apair a b).M w base ok (x, y) cs) :
  ∃ c0 c1, ∃ okA okB : Nat → Prop, cs = c0 ++ c1 ∧ a.M w base okA x c0 ∧ b.M w base okB y c1 ∧ (∀ k, okA k → ok k) ∧ (∀ k, okB k → ok k) ∧ (∀ k, okA k → ¬ okB k) := by
 obtain ⟨c0, c1, f, rfl, ha, hb⟩ := h
 exact ⟨c0, c1, _, _, rfl, ha, hb, fun k hk => hk.1, fun k hk => hk.1, fun k hk h2 => by have h1 := hk.2; rw [h2.2] at h1; cases h1⟩
theorem R_tightB {α : Type} {d : Kd α} (hE : d.E = []) {e base : Nat} {w : World} {ok : Nat → Prop} {v : Value} {xs : List α} (h : d.R e w base ok v xs) : d.R e w base (fun k => some k = v.ownBlock) v xs ∧ (∀ k, some k = v.ownBlock → base ≤ k ∧ k < w.heap.size) ∧ (∀ k, some k = v.ownBlock → ∃ cells, w.heap[k]? = some (.cells cells e (0, 0))) :=
 ⟨Kd.R_tight hE h, fun k hk => ⟨Kd.R_base h k hk.symm, Kd.R_lt h k hk.symm⟩, fun k hk => Kd.R_typed h k hk.symm⟩
theorem Q_tightB {α : Type} {d : Kd α} (hE : d.E = []) {e base : Nat} {w : World} {ok : Nat → Prop} {v : Value} {xs : List α} (h : d.Q e w base ok v xs) : d.Q e w base (fun k => some k = v.ownBlock) v xs ∧ (∀ k, some k = v.ownBlock → base ≤ k ∧ k < w.heap.size) ∧ (∀ k, some k = v.ownBlock → ∃ cells, w.heap[k]? = some (.cells cells e (0, 0))) := by
 obtain ⟨h0, inner, ho, hr⟩ := id h
 exact ⟨Q_tight hE h, fun k hk => ⟨(q_typed ho k hk.symm).1, q_lt ho k hk.symm⟩, fun k hk => (q_typed ho k hk.symm).2⟩
theorem types_ne {w : World} {p q : Nat → Prop} {e e' : Nat} (h : ∀ k, p k → ∃ cells, w.heap[k]? = some (.cells cells e (0, 0))) (h' : ∀ k, q k → ∃ cells, w.heap[k]? = some (.cells cells e' (0, 0))) (hn : e ≠ e') : ∀ k, p k → ¬ q k := by
 intro k hp hq
 obtain ⟨c, hc⟩ := h k hp
 obtain ⟨c', hc'⟩ := h' k hq
 rw [hc] at hc'
 injection hc' with hc'
 injection hc' with _ hc'
 exact hn hc'
theorem R_tight2 {α : Type} {d : Kd α} (hE : d.E = []) {e base : Nat} {w : World} {ok P : Nat → Prop} {v : Value} {xs : List α} (h : d.R e w base ok v xs) (hP : ∀ k, v.ownBlock = some k → P k) : d.R e w base P v xs := Kd.R_mono (Kd.R_tight hE h) (fun k hk => hP k hk.symm)
theorem Q_tight2 {α : Type} {d : Kd α} (hE : d.E = []) {e base : Nat} {w : World} {ok P : Nat → Prop} {v : Value} {xs : List α} (h : d.Q e w base ok v xs) (hP : ∀ k, v.ownBlock = some k → P k) : d.Q e w base P v xs := Kd.Q_mono (Q_tight hE h) (fun k hk => hP k hk.symm)
theorem below_more {w0 w : World} (h : Below w0.heap.size w0 w) (o : Obj) : Below w0.heap.size w0 (w.alloc o) := below_alloc h o
end Go.Proofs.Ytonhdiemjgdcnaa.Own
namespace Go.Proofs.Ytonhdiemjgdcnaa.PFnExactGivePage
open Go.RowKit Go.Proofs.YtonhdiemjgdcnaaW.PrintWords Go.Proofs.YtonhdiemjgdcnaaW.PrintLast Go.Proofs.YtonhdiemjgdcnaaW.PrintMore
attribute [local go_sem] max2_int min2_int max_two min_two max_three min_three max_four min_four
def kWork : Kd ((List ByteArray) × (List S135) × Int × (List Int) × (List Int) × (List Int)) := Own.apair (Own.srow 9 Kd.string) (Own.apair (Own.srow 135 k135) (Own.apair (Kd.int .i64) (Own.apair (Own.arow 3 (Kd.int .i64)) (Own.apair (Own.arow 3 (Kd.int .i64)) (Own.arow 3 (Kd.int .i64))))))
theorem kWork_open {w : World} {l0 : List ByteArray} {l1 : List S135} {l2 : Int} {l3 : List Int} {l4 : List Int} {l5 : List Int} {cs : List Value} (h : kWork.K w (l0, l1, l2, l3, l4, l5) cs) : ∃ A0 c0 A1 c1 A3 c3 A4 c4 A5 c5, cs = [.slice A0 l0.length c0, .slice A1 l1.length c1, .int .i64 l2, .slice A3 l3.length c3, .slice A4 l4.length c4, .slice A5 l5.length c5] ∧ l0.length ≤ c0 ∧ Kd.C Kd.string w A0 l0.length l0 ∧ l1.length ≤ c1 ∧ Kd.C k135 w A1 l1.length l1 ∧ l3.length ≤ c3 ∧ Kd.C (Kd.int .i64) w A3 l3.length l3 ∧ l4.length ≤ c4 ∧ Kd.C (Kd.int .i64) w A4 l4.length l4 ∧ l5.length ≤ c5 ∧ Kd.C (Kd.int .i64) w A5 l5.length l5 := by
 obtain ⟨y0, _, rfl, ⟨A0, c0, rfl, m0, r0⟩, ⟨y1, _, rfl, ⟨A1, c1, rfl, m1, r1⟩, ⟨y2, _, rfl, e2, ⟨y3, _, rfl, ⟨A3, c3, rfl, m3, r3⟩, ⟨y4, _, rfl, ⟨A4, c4, rfl, m4, r4⟩, ⟨A5, c5, rfl, m5, r5⟩⟩⟩⟩⟩⟩ := h
 obtain rfl : y2 = [.int .i64 l2] := e2
 exact ⟨A0, c0, A1, c1, A3, c3, A4, c4, A5, c5, rfl, m0, r0, m1, r1, m3, r3, m4, r4, m5, r5⟩
theorem kWork_openM {w : World} {base : Nat} {ok : Nat → Prop} {l0 : List ByteArray} {l1 : List S135} {l2 : Int} {l3 : List Int} {l4 : List Int} {l5 : List Int} {cs : List Value} (h : kWork.M w base ok (l0, l1, l2, l3, l4, l5) cs) : ∃ v0 v1 v3 v4 v5, ∃ P0 P1 P3 P4 P5 : Nat → Prop, cs = [v0, v1, .int .i64 l2, v3, v4, v5] ∧ Kd.R Kd.string 9 w base P0 v0 l0 ∧ Kd.R k135 135 w base P1 v1 l1 ∧ Kd.Q (Kd.int .i64) 3 w base P3 v3 l3 ∧ Kd.Q (Kd.int .i64) 3 w base P4 v4 l4 ∧ Kd.Q (Kd.int .i64) 3 w base P5 v5 l5 ∧ (∀ k, P0 k → ok k) ∧ (∀ k, P1 k → ok k) ∧ (∀ k, P3 k → ok k) ∧ (∀ k, P4 k → ok k) ∧ (∀ k, P5 k → ok k) ∧ (∀ k, P0 k → ¬ P1 k) ∧ (∀ k, P0 k → ¬ P3 k) ∧ (∀ k, P0 k → ¬ P4 k) ∧ (∀ k, P0 k → ¬ P5 k) ∧ (∀ k, P1 k → ¬ P3 k) ∧ (∀ k, P1 k → ¬ P4 k) ∧ (∀ k, P1 k → ¬ P5 k) ∧ (∀ k, P3 k → ¬ P4 k) ∧ (∀ k, P3 k → ¬ P5 k) ∧ (∀ k, P4 k → ¬ P5 k) := by
 obtain ⟨c0, d0, P0, B0, rfl, h0, h, a0, b0, x0⟩ := Own.apair_open h
 obtain ⟨c1, d1, P1, B1, rfl, h1, h, a1, b1, x1⟩ := Own.apair_open h
 obtain ⟨c2, d2, P2, B2, rfl, h2, h, a2, b2, x2⟩ := Own.apair_open h
 obtain ⟨c3, d3, P3, B3, rfl, h3, h, a3, b3, x3⟩ := Own.apair_open h
 obtain ⟨c4, d4, P4, B4, rfl, h4, h, a4, b4, x4⟩ := Own.apair_open h
 have h5 := h
 obtain ⟨v0, e0, h0⟩ := h0
 subst e0
 obtain ⟨v1, e1, h1⟩ := h1
 subst e1
 obtain rfl : c2 = [.int .i64 l2] := h2
 obtain ⟨v3, f3, e3, h3⟩ := h3
 subst e3
 obtain ⟨v4, f4, e4, h4⟩ := h4
 subst e4
 obtain ⟨v5, f5, e5, h5⟩ := h5
 subst e5
 exact ⟨v0, v1, v3, v4, v5, P0, P1, P3, P4, B4, rfl, Kd.S_R h0, Kd.S_R h1, Own.tagQ h3, Own.tagQ h4, Own.tagQ h5, fun k h2 => a0 k h2, fun k h2 => b0 k (a1 k h2), fun k h2 => b0 k (b1 k (b2 k (a3 k h2))), fun k h2 => b0 k (b1 k (b2 k (b3 k (a4 k h2)))), fun k h2 => b0 k (b1 k (b2 k (b3 k (b4 k (h2))))), fun k h1 h2 => x0 k h1 (a1 k h2), fun k h1 h2 => x0 k h1 (b1 k (b2 k (a3 k h2))), fun k h1 h2 => x0 k h1 (b1 k (b2 k (b3 k (a4 k h2)))), fun k h1 h2 => x0 k h1 (b1 k (b2 k (b3 k (b4 k (h2))))), fun k h1 h2 => x1 k h1 (b2 k (a3 k h2)), fun k h1 h2 => x1 k h1 (b2 k (b3 k (a4 k h2))), fun k h1 h2 => x1 k h1 (b2 k (b3 k (b4 k (h2)))), fun k h1 h2 => x3 k h1 (a4 k h2), fun k h1 h2 => x3 k h1 (b4 k (h2)), fun k h1 h2 => x4 k h1 (h2)⟩
theorem kWork_mkM {w : World} {base : Nat} {ok : Nat → Prop} {l0 : List ByteArray} {l1 : List S135} {l2 : Int} {l3 : List Int} {l4 : List Int} {l5 : List Int} {v0 : Value} {P0 : Nat → Prop} {v1 : Value} {P1 : Nat → Prop} {v3 : Value} {P3 : Nat → Prop} {v4 : Value} {P4 : Nat → Prop} {v5 : Value} {P5 : Nat → Prop} (r0 : Kd.R Kd.string 9 w base P0 v0 l0) (r1 : Kd.R k135 135 w base P1 v1 l1) (r3 : Kd.Q (Kd.int .i64) 3 w base P3 v3 l3) (r4 : Kd.Q (Kd.int .i64) 3 w base P4 v4 l4) (r5 : Kd.Q (Kd.int .i64) 3 w base P5 v5 l5) (o0 : ∀ k, P0 k → ok k) (o1 : ∀ k, P1 k → ok k) (o3 : ∀ k, P3 k → ok k) (o4 : ∀ k, P4 k → ok k) (o5 : ∀ k, P5 k → ok k) (x0_1 : ∀ k, P0 k → ¬ P1 k) (x0_3 : ∀ k, P0 k → ¬ P3 k) (x0_4 : ∀ k, P0 k → ¬ P4 k) (x0_5 : ∀ k, P0 k → ¬ P5 k) (x1_3 : ∀ k, P1 k → ¬ P3 k) (x1_4 : ∀ k, P1 k → ¬ P4 k) (x1_5 : ∀ k, P1 k → ¬ P5 k) (x3_4 : ∀ k, P3 k → ¬ P4 k) (x3_5 : ∀ k, P3 k → ¬ P5 k) (x4_5 : ∀ k, P4 k → ¬ P5 k) : kWork.M w base ok (l0, l1, l2, l3, l4, l5) [v0, v1, .int .i64 l2, v3, v4, v5] := by
 have t5 := (show (Own.arow 3 (Kd.int .i64)).M w base P5 l5 [v5] from Own.arow_of_Q rfl r5)
 have t4 := Own.apair_mk (ok := fun k => P4 k ∨ P5 k) (okA := fun k => P4 k) (okB := fun k => P5 k) (show (Own.arow 3 (Kd.int .i64)).M w base P4 l4 [v4] from Own.arow_of_Q rfl r4) t5 (fun k h => .inl h) (fun k h => .inr h) (fun k h1 h2 => x4_5 k h1 h2)
 have t3 := Own.apair_mk (ok := fun k => P3 k ∨ P4 k ∨ P5 k) (okA := fun k => P3 k) (okB := fun k => P4 k ∨ P5 k) (show (Own.arow 3 (Kd.int .i64)).M w base P3 l3 [v3] from Own.arow_of_Q rfl r3) t4 (fun k h => .inl h) (fun k h => .inr h) (fun k h1 h => by
  rcases h with h | h
  ·exact x3_4 k h1 h
  ·exact x3_5 k h1 h)
 have t2 := Own.apair_mk (ok := fun k => P3 k ∨ P4 k ∨ P5 k) (okA := fun _ => False) (okB := fun k => P3 k ∨ P4 k ∨ P5 k) (show (Kd.int .i64).M w base (fun _ => False) l2 [.int .i64 l2] from rfl) t3 (fun k h => h.elim) (fun k h => h) (fun k h1 _ => h1.elim)
 have t1 := Own.apair_mk (ok := fun k => P1 k ∨ P3 k ∨ P4 k ∨ P5 k) (okA := fun k => P1 k) (okB := fun k => P3 k ∨ P4 k ∨ P5 k) (show (Own.srow 135 k135).M w base P1 l1 [v1] from ((Own.srow 135 k135).M_mono (fun k hk => (r1.1 k hk.symm)) (Own.srow_of_R rfl r1))) t2 (fun k h => .inl h) (fun k h => .inr h) (fun k h1 h => by
  rcases h with h | h | h
  ·exact x1_3 k h1 h
  ·exact x1_4 k h1 h
  ·exact x1_5 k h1 h)
 have t0 := Own.apair_mk (ok := ok) (okA := fun k => P0 k) (okB := fun k => P1 k ∨ P3 k ∨ P4 k ∨ P5 k) (show (Own.srow 9 Kd.string).M w base P0 l0 [v0] from ((Own.srow 9 Kd.string).M_mono (fun k hk => (r0.1 k hk.symm)) (Own.srow_of_R rfl r0))) t1 (fun k h => o0 k h) (fun k h => by
  rcases h with h | h | h | h
  ·exact o1 k h
  ·exact o3 k h
  ·exact o4 k h
  ·exact o5 k h) (fun k h1 h => by
  rcases h with h | h | h | h
  ·exact x0_1 k h1 h
  ·exact x0_3 k h1 h
  ·exact x0_4 k h1 h
  ·exact x0_5 k h1 h)
 exact t0
def kWorkL : Kd ((List ByteArray) × (List S140) × Int × (List Int) × (List Int) × (List Int)) := Own.apair (Own.srow 9 Kd.string) (Own.apair (Own.srow 140 k140) (Own.apair (Kd.int .i64) (Own.apair (Own.arow 3 (Kd.int .i64)) (Own.apair (Own.arow 3 (Kd.int .i64)) (Own.arow 3 (Kd.int .i64))))))
theorem kWorkL_open {w : World} {l0 : List ByteArray} {l1 : List S140} {l2 : Int} {l3 : List Int} {l4 : List Int} {l5 : List Int} {cs : List Value} (h : kWorkL.K w (l0, l1, l2, l3, l4, l5) cs) : ∃ A0 c0 A1 c1 A3 c3 A4 c4 A5 c5, cs = [.slice A0 l0.length c0, .slice A1 l1.length c1, .int .i64 l2, .slice A3 l3.length c3, .slice A4 l4.length c4, .slice A5 l5.length c5] ∧ l0.length ≤ c0 ∧ Kd.C Kd.string w A0 l0.length l0 ∧ l1.length ≤ c1 ∧ Kd.C k140 w A1 l1.length l1 ∧ l3.length ≤ c3 ∧ Kd.C (Kd.int .i64) w A3 l3.length l3 ∧ l4.length ≤ c4 ∧ Kd.C (Kd.int .i64) w A4 l4.length l4 ∧ l5.length ≤ c5 ∧ Kd.C (Kd.int .i64) w A5 l5.length l5 := by
 obtain ⟨y0, _, rfl, ⟨A0, c0, rfl, m0, r0⟩, ⟨y1, _, rfl, ⟨A1, c1, rfl, m1, r1⟩, ⟨y2, _, rfl, e2, ⟨y3, _, rfl, ⟨A3, c3, rfl, m3, r3⟩, ⟨y4, _, rfl, ⟨A4, c4, rfl, m4, r4⟩, ⟨A5, c5, rfl, m5, r5⟩⟩⟩⟩⟩⟩ := h
 obtain rfl : y2 = [.int .i64 l2] := e2
 exact ⟨A0, c0, A1, c1, A3, c3, A4, c4, A5, c5, rfl, m0, r0, m1, r1, m3, r3, m4, r4, m5, r5⟩
theorem kWorkL_mk {w : World} {l0 : List ByteArray} {l1 : List S140} {l2 : Int} {l3 : List Int} {l4 : List Int} {l5 : List Int} {A0 : Option Addr} {c0 : Nat} {A1 : Option Addr} {c1 : Nat} {A3 : Option Addr} {c3 : Nat} {A4 : Option Addr} {c4 : Nat} {A5 : Option Addr} {c5 : Nat} (m0 : l0.length ≤ c0) (r0 : Kd.C Kd.string w A0 l0.length l0) (m1 : l1.length ≤ c1) (r1 : Kd.C k140 w A1 l1.length l1) (m3 : l3.length ≤ c3) (r3 : Kd.C (Kd.int .i64) w A3 l3.length l3) (m4 : l4.length ≤ c4) (r4 : Kd.C (Kd.int .i64) w A4 l4.length l4) (m5 : l5.length ≤ c5) (r5 : Kd.C (Kd.int .i64) w A5 l5.length l5) : kWorkL.K w (l0, l1, l2, l3, l4, l5) [.slice A0 l0.length c0, .slice A1 l1.length c1, .int .i64 l2, .slice A3 l3.length c3, .slice A4 l4.length c4, .slice A5 l5.length c5] := ⟨[_], [_, _, _, _, _], rfl, ⟨A0, c0, rfl, m0, r0⟩, ⟨[_], [_, _, _, _], rfl, ⟨A1, c1, rfl, m1, r1⟩, ⟨[_], [_, _, _], rfl, rfl, ⟨[_], [_, _], rfl, ⟨A3, c3, rfl, m3, r3⟩, ⟨[_], [_], rfl, ⟨A4, c4, rfl, m4, r4⟩, ⟨A5, c5, rfl, m5, r5⟩⟩⟩⟩⟩⟩
def puts (W : World) (g i : Nat) : List Value → World
 | [] => W
 | v :: vs => puts (W.setCell ⟨g, i, none⟩ v) g (i + 1) vs
theorem run_puts {P : Program} {g : Nat} {t : TypeId} : ∀ (vs : List Value) (i : Nat) (cur : Array Value) (w : World), w.heap[g]? = some (.cells cur t (0, 0)) → i + vs.length ≤ cur.size → (∀ v ∈ vs, v.oneCell' = true) →
  (storeCells ⟨g, 0, none⟩ vs i).run P w = .ok () (puts w g i vs)
 | [], i, cur, w, hg, hl, _ => rfl
 | v :: rest, i, cur, w, hg, hl, h1 => by
  have hi : i < cur.size := by simp at hl; omega
  have hadd : (⟨g, 0, none⟩ : Addr).add i = ⟨g, i, none⟩ := by unfold Addr.add; split <;> simp_all
  have hcell : w.cell? ⟨g, i, none⟩ = some cur[i] := by simp [World.cell?, hg, hi]
  have hfro : w.frozen? ⟨g, i, none⟩ = false := by simp [World.frozen?, hg]
  have hst : (store ((⟨g, 0, none⟩ : Addr).add i) v).run P w = .ok () (w.setCell ⟨g, i, none⟩ v) := by
   rw [hadd, run_store P w _ v _ (h1 v (by simp)), hcell]
   simp [hfro]
  have ih := run_puts (P := P) rest (i + 1) (cur.setIfInBounds i v) (w.setCell ⟨g, i, none⟩ v) (blk_set hg i v) (by simp at hl ⊢; omega) (fun x hx => h1 x (by simp [hx]))
  simp only [storeCells, Sem.run_bind, hst, Result.andThen_ok, ih]
  rfl
section
variable {P : Program} {ops : Array Oper} {rest : List Oper} {o : Oper} {a : Act} {Q : Exit → Act → World → Prop} {W : World}
theorem ev_loadrow (hgd : o.guard = none) (ty : TypeId) (x : Operand) (ho : o.op = .load ty x) (g : Nat) (cs : Array Value) (t : TypeId) (d : TypeDesc) (hx : a.eval x = .pointer (some ⟨g, 0, none⟩)) (hg : W.heap[g]? = some (.cells cs t (0, 0)))
  (hu : P.underlying ty = some d) (hd : (match d with | .struct _ | .array _ _ => true | _ => false) = true) (hi : (P.info? ty).map (·.size) = some cs.size)
  (h : wpList P ops Q rest (a.put o.dst (.agg cs)) W) : wpList P ops Q (o :: rest) a W := by
 refine wpList_plain hgd fun K hK => ?_
 unfold Oper.wp execOp
 simp only [ho, hx, Instr.loadAt, Instr.sureAddr, Sem.run_bind, Sem.run_pure, Result.andThen_ok, run_loadVar_row W g t ty cs (0, 0) d hg hu hd hi]
 exact hK _ _ h
theorem run_loadrow (ty : TypeId) (x : Operand) (ho : o.op = .load ty x) (g : Nat) (cs : Array Value) (t : TypeId) (d : TypeDesc) (hx : a.eval x = .pointer (some ⟨g, 0, none⟩)) (hg : W.heap[g]? = some (.cells cs t (0, 0)))
  (hu : P.underlying ty = some d) (hd : (match d with | .struct _ | .array _ _ => true | _ => false) = true) (hi : (P.info? ty).map (·.size) = some cs.size) :
  (execOp a.eval o).run P W = .ok (.value (.agg cs)) W := by
 unfold execOp
 simp only [ho, hx, Instr.loadAt, Instr.sureAddr, Sem.run_bind, Sem.run_pure, Result.andThen_ok, run_loadVar_row W g t ty cs (0, 0) d hg hu hd hi]
theorem ev_storerow (hgd : o.guard = none) (ty : TypeId) (x y : Operand) (ho : o.op = .store ty x y) (hN : o.dst = none) (g : Nat) (cs : List Value) (cur : Array Value) (t : TypeId) (hx : a.eval x = .pointer (some ⟨g, 0, none⟩)) (hy : a.eval y = .agg cs.toArray) (hg : W.heap[g]? = some (.cells cur t (0, 0)))
  (hi : (P.info? ty).map (·.size) = some cs.length) (hc : cs.length ≤ cur.size) (h1 : cs.all (·.oneCell') = true)
  (h : wpList P ops Q rest a (puts W g 0 cs)) : wpList P ops Q (o :: rest) a W := by
 refine wpList_plain hgd fun K hK => ?_
 have hr := run_puts (P := P) cs 0 cur W hg (by omega) (fun v hv => List.all_eq_true.1 h1 v hv)
 have hs : (storeVar ty ⟨g, 0, none⟩ (.agg cs.toArray)).run P W = .ok () (puts W g 0 cs) := by
  cases hq : P.info? ty with
  | none => simp [hq] at hi
  | some i =>
   have hs : cs.length = i.size := by simp [hq] at hi; omega
   simp [storeVar, sizeOf, typeInfo, hq, Value.cells, hs, hr]
 unfold Oper.wp execOp
 simp only [ho, hx, hy, Instr.storeAt, Instr.sureAddr, Sem.run_bind, Sem.run_pure, Result.andThen_ok, hs]
 show K (a.put o.dst undef) _
 rw [hN]
 exact hK _ _ h
end
theorem markIntS_Q (k : Nat) (P0_ : Nat → Prop) (u9000_ : Value) (l0 : List Int) (a1 : Int) (r1 : Int) (r2 : List Int) (w0 w : World) (hB : Below w0.heap.size w0 w) (ho0 : Kd.Q (Kd.int .i64) 3 w w0.heap.size P0_ u9000_ l0) (h : laws_markIntS.f k l0 a1 = some (r1, r2)) :
  Calls Try.prog 51 #[u9000_, .int .i64 a1] w fun e w' => e = .returned (.int .i64 r1) ∧ Kd.Q (Kd.int .i64) 3 w' w0.heap.size (fun k_ => (P0_ k_ ∨ w.heap.size ≤ k_)) u9000_ r2 ∧ Below w0.heap.size w0 w' ∧ Kept w w' (fun k_ => P0_ k_) := by
 have HO0 := Aside0.mk (show Kd.Q (Kd.int .i64) 3 w w0.heap.size (fun k_ => (P0_ k_ ∨ w.heap.size ≤ k_)) u9000_ l0 from Kd.Q_mono ho0 (fun k_ hk => (.inl hk)))
 have HK := Aside0.mk (Kept.refl w (fun k_ => P0_ k_))
 have HW0 := Aside0.mk hB.size
 have HB := Aside0.mk hB
 clear hB
 have H : (laws_markIntS.l0 k l0 a1 0) = some (r1, r2) := h
 clear h
 have H' := Aside0.mk H
 clear H
 go_enter Try.func51, Try.ntmps51
 go_wp2
 go_loopg [1, 5] k (fun kq v1 v5 w' => ∃ (x0_1 : List Int) (x1_1 : Int) (x5_1 : Int), v1 = .int .i64 x1_1 ∧ v5 = .int .i64 x5_1 ∧ Aside0 (laws_markIntS.l0 kq x0_1 x1_1 x5_1 = some (r1, r2)) ∧ Aside0 (kq ≤ k) ∧ Aside0 (Kd.Q (Kd.int .i64) 3 w' w0.heap.size (fun k_ => (P0_ k_ ∨ w.heap.size ≤ k_)) u9000_ x0_1) ∧ Aside0 (Kept w w' (fun k_ => P0_ k_)) ∧ Aside0 (Below w0.heap.size w0 w'))
 case atStart => exact ⟨(l0), (a1), (0), (by first | rfl | (simp; done) | (simp [*]; done)), (by first | rfl | (simp; done) | (simp [*]; done)), H', ⟨Nat.le_refl _⟩, ⟨by (with_reducible repeat (first | apply Kd.Q_alloc | apply Kd.Q_drewN | apply Kd.Q_drew)); exact HO0.out⟩, ⟨by repeat (first | (with_reducible first | exact HK.out | apply Kept.alloc | apply Kept.drewN | apply Kept.drew) | exact HK.out)⟩, ⟨by repeat (first | (with_reducible first | exact HB.out | apply below_alloc | apply pw_below_drewN | apply below_drew1) | exact HB.out)⟩⟩
 case round =>
  clear H'
  obtain ⟨x0_1, x1_1, x5_1, rfl, rfl, HA, HK1, HO_0, HK, HB⟩ := hrel
  cases gk with
  | zero => exact absurd HA.out (by simp [laws_markIntS.l0])
  | succ k1 =>
   have H := HA.out
   clear HA
   simp only [laws_markIntS.l0] at H
   by_cases c3 : x5_1 < (x0_1.length : Int)
   ·rw [if_pos c3] at H
    have c3b0 : decide (x5_1 < (x0_1.length : Int)) = true := decide_eq_true c3
    clear c3
    by_cases c4 : 0 ≤ x5_1
    ·rw [if_pos c4] at H
     have c4b0 : decide (0 ≤ x5_1) = true := decide_eq_true c4
     clear c4
     obtain ⟨y294, hy294⟩ : ∃ y_ : List Int, y_ = (x0_1.set (x5_1 : Int).toNat x1_1) := ⟨_, rfl⟩
     replace H : (laws_markIntS.l0 k1 y294 (wrap64 (x1_1 + 1)) (wrap64 (x5_1 + 1))) = some (r1, r2) := by first | (rw [hy294]; with_reducible exact H) | (have H2_ := (Option.bind_some _ _).symm.trans H; rw [hy294]; with_reducible exact H2_) | (have H2_ := (Option.bind_some _ _).symm.trans H; with_reducible exact H2_) | with_reducible exact H | (rw [hy294]; exact H) | exact H
     have Ny294 := Aside0.mk hy294
     clear hy294
     have H' := Aside0.mk H
     clear H
     obtain ⟨Ao6, co6, eo6, _⟩ := Kd.Q_slice HO_0.out
     subst eo6
     have p5 : 0 ≤ (x5_1 : Int) := of_decide_eq_true (by with_reducible assumption)
     have q5 : (x5_1 : Int) < ((x0_1.length : Int) : Int) := of_decide_eq_true (by with_reducible assumption)
     obtain ⟨go5, oo5, co5, eo5, gb5, gl5, cl5, HG5⟩ := Kd.Q_form HO_0.out (by omega)
     (first | cases eo5 | (injection eo5 with ea_ en_ ec_; (first | subst ea_ | (injection ea_ with ea_; subst ea_)); subst ec_; clear en_))
     have GB5 := Aside0.mk gb5
     have GG5 := Aside0.mk HG5
     clear gb5 gl5 HG5
     have HMgo5 := Aside0.mk (show (P0_ go5 ∨ w.heap.size ≤ go5) from (HO_0.out.1 _ rfl))
     obtain ⟨hx5_0, hf5_0⟩ := Kd.Q_cell 0 HO_0.out (x5_1 : Int) p5 q5
     have p5q := p5
     have q5q := q5
     replace p5 := eq_true p5
     replace q5 := eq_true q5
     have HP7 := Kd.Q_putg HO_0.out (x5_1 : Int) p5q q5q x1_1
     go_wp2_with (first | ((with_reducible refine gate_store (t := 3) (p := 15) rfl ?_); refine store_event (t := 3) (p := 15) (v := ?vo_w8) (w1 := (wr.setCell ⟨go5, oo5 + (x5_1 : Int).toNat, none⟩ (.int .i64 x1_1))) ?hg ?ho ?hn ?hr ?_; (case ho => rfl); (case hg => rfl); (case hn => rfl); (case hr => first | (go_simp; done) | (go_simp; rfl)); intro w8 hw; have hg : wr.grownBy w8 (some go5) := (by rw [hw]; exact HP7.2); have hp_ : Kd.Q (Kd.int .i64) 3 w8 w0.heap.size (fun k_ => (P0_ k_ ∨ w.heap.size ≤ k_)) (.slice (some ⟨go5, oo5, none⟩) x0_1.length co6) y294 := (by rw [hw, Ny294.out]; exact HP7.1); clear HP7; have n0_ := Aside0.mk (hp_); have n1_ := Aside0.mk ((by rw [hw]; exact below_set (HB.out) GB5.out : Below w0.heap.size w0 w8)); have n2_ := Aside0.mk (Kept.of_grown (S := (fun k_ => P0_ k_)) hg (by repeat (first | (with_reducible first | exact HK.out | apply Kept.alloc | apply Kept.drewN | apply Kept.drew) | exact HK.out)) (fun k_ e_ => (HO_0.out.1 k_ e_))); clear HO_0; clear HB; clear HK; have HO_0 := n0_; have HB := n1_; have HK := n2_; clear n0_ n1_ n2_; clear hg hw hp_))
     go_roundg k1
     case measure => have := HK1.out; omega
     case rel => exact ⟨(y294), (wrap64 (x1_1 + 1)), (wrap64 (x5_1 + 1)), (by first | rfl | (simp; done) | (simp [*]; done)), (by first | rfl | (simp; done) | (simp [*]; done)), H', ⟨by have := HK1.out; omega⟩, ⟨by (with_reducible repeat (first | apply Kd.Q_alloc | apply Kd.Q_drewN | apply Kd.Q_drew)); exact HO_0.out⟩, ⟨by repeat (first | (with_reducible first | exact HK.out | apply Kept.alloc | apply Kept.drewN | apply Kept.drew) | exact HK.out)⟩, ⟨by repeat (first | (with_reducible first | exact HB.out | apply below_alloc | apply pw_below_drewN | apply below_drew1) | exact HB.out)⟩⟩
    ·rw [if_neg c4] at H
     exact absurd H (by simp)
   ·rw [if_neg c3] at H
    have c3b0 : decide (x5_1 < (x0_1.length : Int)) = false := decide_eq_false c3
    clear c3
    simp only [Option.some.injEq, Prod.mk.injEq] at H
    obtain ⟨rfl, rfl⟩ := H
    obtain ⟨Ao9, co9, eo9, _⟩ := Kd.Q_slice HO_0.out
    subst eo9
    go_wp2
    go_ret
    exact ⟨by first | rfl | (simp [errW_none, errW_some] <;> rfl) | (simp [*, errW_none, errW_some] <;> rfl), by (with_reducible repeat (first | apply Kd.Q_alloc | apply Kd.Q_drewN | apply Kd.Q_drew)); exact HO_0.out, by repeat (first | (with_reducible first | exact HB.out | apply below_alloc | apply pw_below_drewN | apply below_drew1) | exact HB.out), by repeat (first | (with_reducible first | exact HK.out | apply Kept.alloc | apply Kept.drewN | apply Kept.drew) | exact HK.out)⟩
theorem putsB_below {w : World} {g : Nat} (hg : w.heap.size ≤ g) : ∀ (vs : List Value) (W : World) (i : Nat), Below w.heap.size w W → Below w.heap.size w (puts W g i vs)
 | [], W, i, h => h
 | u :: vs, W, i, h => putsB_below hg vs _ _ (below_set h hg)
def putsA (cs : List Value) (i : Nat) : List Value → List Value
 | [] => cs
 | v :: vs => putsA (cs.set i v) (i + 1) vs
theorem puts_blk {g : Nat} {t : TypeId} : ∀ (vs : List Value) (cs : List Value) (W : World) (i : Nat) (cs' : List Value), W.heap[g]? = some (.cells cs.toArray t (0, 0)) → putsA cs i vs = cs' → (puts W g i vs).heap[g]? = some (.cells cs'.toArray t (0, 0))
 | [], cs, W, i, cs', hh, e => by subst e; exact hh
 | v :: vs, cs, W, i, cs', hh, e => puts_blk vs (cs.set i v) _ _ _ (blk_put hh i v (by simp)) e
theorem putsA_row : ∀ (vs cs pre : List Value), cs.length = vs.length → putsA (pre ++ cs) pre.length vs = pre ++ vs
 | [], cs, pre, h => by
  have : cs = [] := by simpa using h
  subst this; rfl
 | v :: vs, [], pre, h => by simp at h
 | v :: vs, c :: cs, pre, h => by
  have e : (pre ++ c :: cs).set pre.length v = (pre ++ [v]) ++ cs := by simp
  have ih := putsA_row vs cs (pre ++ [v]) (by simpa using h)
  show putsA ((pre ++ c :: cs).set pre.length v) (pre.length + 1) vs = _
  rw [e]
  simpa using ih
theorem box_new {w W : World} {t : TypeId} {zs cs : List Value} (hw : W = puts (w.alloc (.cells zs.toArray t)) w.heap.size 0 cs) (hl : zs.length = cs.length) : Below w.heap.size w W ∧ W.heap[w.heap.size]? = some (.cells cs.toArray t (0, 0)) := by
 subst hw
 exact ⟨putsB_below (Nat.le_refl _) _ _ _ (below_alloc (Below.refl _ _) _), puts_blk cs zs _ 0 cs (blk_new w _) (putsA_row cs zs [] hl)⟩
theorem szWork_o (k : Nat) (l0 : List ByteArray) (l1 : List S140) (l2 : Int) (l3 : List Int) (l4 : List Int) (l5 : List Int) (r : Int) {cs : List Value} (w : World) (h : kWorkL.K w (l0, l1, l2, l3, l4, l5) cs) (hf : laws_szWork.f k l0 l1 l2 l3 l4 l5 1048576 = some r) :
  Calls Try.prog 9 #[.agg cs.toArray, .int .i64 1048576] w fun e w' => e = .returned (.int .i64 r) ∧ Below w.heap.size w w' := by
 obtain ⟨A0, c0, A1, c1, A3, c3, A4, c4, A5, c5, rfl, m0, r0, m1, r1, m3, r3, m4, r4, m5, r5⟩ := kWorkL_open h
 exact laws_szWork.calls k A0 c0 l0 A1 c1 l1 l2 A3 c3 l3 A4 c4 l4 A5 c5 l5 1048576 r w r0 m0 r1 m1 r3 m3 r4 m4 r5 m5 hf
theorem heldWork_o (k : Nat) (l0 : List ByteArray) (l1 : List S135) (l2 : Int) (l3 : List Int) (l4 : List Int) (l5 : List Int) (a r : Int) {cs : List Value} (w : World) (h : kWork.K w (l0, l1, l2, l3, l4, l5) cs) (hf : laws_heldWork.f k l0 l1 l2 l3 l4 l5 a = some r) :
  Calls Try.prog 15 #[.agg cs.toArray, .int .i64 a] w fun e w' => e = .returned (.int .i64 r) ∧ Below w.heap.size w w' := by
 obtain ⟨A0, c0, A1, c1, A3, c3, A4, c4, A5, c5, rfl, m0, r0, m1, r1, m3, r3, m4, r4, m5, r5⟩ := kWork_open h
 exact laws_heldWork.calls k A0 c0 l0 A1 c1 l1 l2 A3 c3 l3 A4 c4 l4 A5 c5 l5 a r w r0 m0 r1 m1 r3 m3 r4 m4 r5 m5 hf
theorem eqWork_o (k : Nat) (l0 : List ByteArray) (l1 : List S135) (l2 : Int) (l3 : List Int) (l4 : List Int) (l5 : List Int) (q0 : List ByteArray) (q1 : List S135) (q2 : Int) (q3 : List Int) (q4 : List Int) (q5 : List Int) {cs ds : List Value} (w : World) (h : kWork.K w (l0, l1, l2, l3, l4, l5) cs) (h2 : kWork.K w (q0, q1, q2, q3, q4, q5) ds) (hf : laws_eqWork.f k l0 l1 l2 l3 l4 l5 q0 q1 q2 q3 q4 q5 = some true) :
  Calls Try.prog 13 #[.agg cs.toArray, .agg ds.toArray] w fun e w' => e = .returned (.bool true) ∧ Below w.heap.size w w' := by
 obtain ⟨A0, c0, A1, c1, A3, c3, A4, c4, A5, c5, rfl, m0, r0, m1, r1, m3, r3, m4, r4, m5, r5⟩ := kWork_open h
 obtain ⟨D0, d0, D1, d1, D3, d3, D4, d4, D5, d5, rfl, n0, s0, n1, s1, n3, s3, n4, s4, n5, s5⟩ := kWork_open h2
 exact laws_eqWork.calls k A0 c0 l0 A1 c1 l1 l2 A3 c3 l3 A4 c4 l4 A5 c5 l5 D0 d0 q0 D1 d1 q1 q2 D3 d3 q3 D4 d4 q4 D5 d5 q5 true w r0 m0 r1 m1 r3 m3 r4 m4 r5 m5 s0 n0 s1 n1 s3 n3 s4 n4 s5 n5 hf
theorem toWork_o (k : Nat) (l0 : List ByteArray) (l1 : List S140) (l2 : Int) (l3 : List Int) (l4 : List Int) (l5 : List Int) (q0 : List ByteArray) (q1 : List S135) (q2 : Int) (q3 : List Int) (q4 : List Int) (q5 : List Int) {cs : List Value} (w : World) (h : kWorkL.K w (l0, l1, l2, l3, l4, l5) cs) (hf : laws_toWork.f k l0 l1 l2 l3 l4 l5 = some (q0, q1, q2, q3, q4, q5)) :
  Calls Try.prog 11 #[.agg cs.toArray] w fun e w' => ∃ ds : List Value, e = .returned (.agg ds.toArray) ∧ kWork.M w' w.heap.size (fun k => w.heap.size ≤ k ∧ k < w'.heap.size) (q0, q1, q2, q3, q4, q5) ds ∧ Below w.heap.size w w' := by
 obtain ⟨A0, c0, A1, c1, A3, c3, A4, c4, A5, c5, rfl, m0, r0, m1, r1, m3, r3, m4, r4, m5, r5⟩ := kWorkL_open h
 refine (laws_toWork.calls k A0 c0 l0 A1 c1 l1 l2 A3 c3 l3 A4 c4 l4 A5 c5 l5 q0 q1 q2 q3 q4 q5  w r0 m0 r1 m1 r3 m3 r4 m4 r5 m5 hf).mono ?_
 rintro e w' ⟨v0, v1, v3, v4, v5, rfl, R0, R1, R3, R4, R5, hb⟩
 refine ⟨[v0, v1, .int .i64 q2, v3, v4, v5], rfl, ?_, hb⟩
 have T0 := Own.R_tightB rfl R0
 have T1 := Own.R_tightB rfl R1
 have T3 := Own.Q_tightB rfl (Kd.Q_of_R R3)
 have T4 := Own.Q_tightB rfl (Kd.Q_of_R R4)
 have T5 := Own.Q_tightB rfl (Kd.Q_of_R R5)
 refine kWork_mkM T0.1 T1.1 T3.1 T4.1 T5.1 T0.2.1 T1.2.1 T3.2.1 T4.2.1 T5.2.1 ?_ ?_ ?_ ?_ ?_ ?_ ?_ ?_ ?_ ?_
 ·exact Own.types_ne T0.2.2 T1.2.2 (by decide)
 ·exact Own.types_ne T0.2.2 T3.2.2 (by decide)
 ·exact Own.types_ne T0.2.2 T4.2.2 (by decide)
 ·exact Own.types_ne T0.2.2 T5.2.2 (by decide)
 ·exact Own.types_ne T1.2.2 T3.2.2 (by decide)
 ·exact Own.types_ne T1.2.2 T4.2.2 (by decide)
 ·exact Own.types_ne T1.2.2 T5.2.2 (by decide)
 ·exact fun k h1 h2 => (R4.1 k h2.symm).1 h1
 ·exact fun k h1 h2 => (R5.1 k h2.symm).1 h1
 ·exact fun k h1 h2 => (R5.1 k h2.symm).2 h1
theorem specGive_o (l0 : List ByteArray) (l1 : List S135) (l2 : Int) (l3 : List Int) (l4 : List Int) (l5 : List Int) (q0 : List ByteArray) (q1 : List S135) (q2 : Int) (q3 : List Int) (q4 : List Int) (q5 : List Int) (r : Int) {cs : List Value} (w : World) (h : kWork.K w (l0, l1, l2, l3, l4, l5) cs) (hf : spec_GivePage.f l0 l1 l2 l3 l4 l5 = some (q0, q1, q2, q3, q4, q5, r)) :
  Calls Try.prog 10 #[.agg cs.toArray] w fun e w' => ∃ ds : List Value, e = .returned (.tuple #[.agg ds.toArray, .int .i64 r]) ∧ kWork.M w' w.heap.size (fun k => w.heap.size ≤ k ∧ k < w'.heap.size) (q0, q1, q2, q3, q4, q5) ds ∧ Below w.heap.size w w' := by
 obtain ⟨A0, c0, A1, c1, A3, c3, A4, c4, A5, c5, rfl, m0, r0, m1, r1, m3, r3, m4, r4, m5, r5⟩ := kWork_open h
 refine (spec_GivePage.calls A0 c0 l0 A1 c1 l1 l2 A3 c3 l3 A4 c4 l4 A5 c5 l5 q0 q1 q2 q3 q4 q5 r w r0 m0 r1 m1 r3 m3 r4 m4 r5 m5 hf).mono ?_
 rintro e w' ⟨v0, v1, v3, v4, v5, rfl, R0, R1, R3, R4, R5, hb⟩
 refine ⟨[v0, v1, .int .i64 q2, v3, v4, v5], rfl, ?_, hb⟩
 have T0 := Own.R_tightB rfl R0
 have T1 := Own.R_tightB rfl R1
 have T3 := Own.Q_tightB rfl (Kd.Q_of_R R3)
 have T4 := Own.Q_tightB rfl (Kd.Q_of_R R4)
 have T5 := Own.Q_tightB rfl (Kd.Q_of_R R5)
 refine kWork_mkM T0.1 T1.1 T3.1 T4.1 T5.1 T0.2.1 T1.2.1 T3.2.1 T4.2.1 T5.2.1 ?_ ?_ ?_ ?_ ?_ ?_ ?_ ?_ ?_ ?_
 ·exact Own.types_ne T0.2.2 T1.2.2 (by decide)
 ·exact Own.types_ne T0.2.2 T3.2.2 (by decide)
 ·exact Own.types_ne T0.2.2 T4.2.2 (by decide)
 ·exact Own.types_ne T0.2.2 T5.2.2 (by decide)
 ·exact Own.types_ne T1.2.2 T3.2.2 (by decide)
 ·exact Own.types_ne T1.2.2 T4.2.2 (by decide)
 ·exact Own.types_ne T1.2.2 T5.2.2 (by decide)
 ·exact fun k h1 h2 => (R4.1 k h2.symm).1 h1
 ·exact fun k h1 h2 => (R5.1 k h2.symm).1 h1
 ·exact fun k h1 h2 => (R5.1 k h2.symm).2 h1
theorem implGive_o (l0 : List ByteArray) (l1 : List S135) (l2 : Int) (l3 : List Int) (l4 : List Int) (l5 : List Int) (q0 : List ByteArray) (q1 : List S135) (q2 : Int) (q3 : List Int) (q4 : List Int) (q5 : List Int) (r : Int) {cs : List Value} (w : World) (h : kWork.K w (l0, l1, l2, l3, l4, l5) cs) (hf : impl_GivePage.f l0 l1 l2 l3 l4 l5 = some (q0, q1, q2, q3, q4, q5, r)) :
  Calls Try.prog 12 #[.agg cs.toArray] w fun e w' => ∃ ds : List Value, e = .returned (.tuple #[.agg ds.toArray, .int .i64 r]) ∧ kWork.M w' w.heap.size (fun k => w.heap.size ≤ k ∧ k < w'.heap.size) (q0, q1, q2, q3, q4, q5) ds ∧ Below w.heap.size w w' := by
 obtain ⟨A0, c0, A1, c1, A3, c3, A4, c4, A5, c5, rfl, m0, r0, m1, r1, m3, r3, m4, r4, m5, r5⟩ := kWork_open h
 refine (impl_GivePage.calls A0 c0 l0 A1 c1 l1 l2 A3 c3 l3 A4 c4 l4 A5 c5 l5 q0 q1 q2 q3 q4 q5 r w r0 m0 r1 m1 r3 m3 r4 m4 r5 m5 hf).mono ?_
 rintro e w' ⟨v0, v1, v3, v4, v5, rfl, R0, R1, R3, R4, R5, hb⟩
 refine ⟨[v0, v1, .int .i64 q2, v3, v4, v5], rfl, ?_, hb⟩
 have T0 := Own.R_tightB rfl R0
 have T1 := Own.R_tightB rfl R1
 have T3 := Own.Q_tightB rfl (R3)
 have T4 := Own.Q_tightB rfl (Kd.Q_of_R R4)
 have T5 := Own.Q_tightB rfl (Kd.Q_of_R R5)
 refine kWork_mkM T0.1 T1.1 T3.1 T4.1 T5.1 T0.2.1 T1.2.1 T3.2.1 T4.2.1 T5.2.1 ?_ ?_ ?_ ?_ ?_ ?_ ?_ ?_ ?_ ?_
 ·exact Own.types_ne T0.2.2 T1.2.2 (by decide)
 ·exact Own.types_ne T0.2.2 T3.2.2 (by decide)
 ·exact Own.types_ne T0.2.2 T4.2.2 (by decide)
 ·exact Own.types_ne T0.2.2 T5.2.2 (by decide)
 ·exact Own.types_ne T1.2.2 T3.2.2 (by decide)
 ·exact Own.types_ne T1.2.2 T4.2.2 (by decide)
 ·exact Own.types_ne T1.2.2 T5.2.2 (by decide)
 ·exact fun k h1 h2 => (R4.1 k h2.symm).1 h1
 ·exact fun k h1 h2 => (R5.1 k h2.symm).1 h1
 ·exact fun k h1 h2 => (R5.1 k h2.symm).2 h1
theorem markWork_o (k : Nat) (l0 : List ByteArray) (l1 : List S135) (l2 : Int) (l3 : List Int) (l4 : List Int) (l5 : List Int) (q0 : List ByteArray) (q1 : List S135) (q3 : List Int) (q4 : List Int) (q5 : List Int) (a t1 t2 t3 r : Int) (ok : Nat → Prop) {cs : List Value} (w0 w : World) (hB : Below w0.heap.size w0 w) (hk : ∀ k, ok k → k < w.heap.size) (h : kWork.M w w0.heap.size ok (l0, l1, l2, l3, l4, l5) cs)
  (f1 : laws_markDisk.f k l0 l1 a = some (t1, q0, q1)) (f2 : laws_markIntS.f k l3 t1 = some (t2, q3)) (f3 : laws_markIntS.f k l4 t2 = some (t3, q4)) (f4 : laws_markIntS.f k l5 t3 = some (r, q5)) :
  Calls Try.prog 14 #[.agg cs.toArray, .int .i64 a] w fun e w' => e = .returned (.int .i64 r) ∧ kWork.M w' w0.heap.size ok (q0, q1, l2, q3, q4, q5) cs ∧ Below w0.heap.size w0 w' ∧ Kept w w' ok := by
 obtain ⟨v0, v1, v3, v4, v5, P0, P1, P3, P4, P5, rfl, R0, R1, R3, R4, R5, o0, o1, o3, o4, o5, x01, x03, x04, x05, x13, x14, x15, x34, x35, x45⟩ := kWork_openM h
 have bd0 : ∀ k, P0 k → k < w.heap.size := fun k h => hk k (o0 k h)
 have bd1 : ∀ k, P1 k → k < w.heap.size := fun k h => hk k (o1 k h)
 have bd3 : ∀ k, P3 k → k < w.heap.size := fun k h => hk k (o3 k h)
 have bd4 : ∀ k, P4 k → k < w.heap.size := fun k h => hk k (o4 k h)
 have bd5 : ∀ k, P5 k → k < w.heap.size := fun k h => hk k (o5 k h)
 clear h
 obtain ⟨A0, c0, rfl⟩ := Kd.R_slice R0
 obtain ⟨A1, c1, rfl⟩ := Kd.R_slice R1
 obtain ⟨A3, c3, rfl, _⟩ := Kd.Q_slice R3
 obtain ⟨A4, c4, rfl, _⟩ := Kd.Q_slice R4
 obtain ⟨A5, c5, rfl, _⟩ := Kd.Q_slice R5
 have e0 := R0.1
 have e1 := R1.1
 have e3 := R3.1
 have e4 := R4.1
 have e5 := R5.1
 have K1 := Aside0.mk f1
 have K2 := Aside0.mk f2
 have K3 := Aside0.mk f3
 have K4 := Aside0.mk f4
 clear f1 f2 f3 f4
 replace R0 := Aside0.mk (Kd.R_alloc R0 (.cells #[.slice A0 l0.length c0, .slice A1 l1.length c1, .int .i64 l2, .slice A3 l3.length c3, .slice A4 l4.length c4, .slice A5 l5.length c5] 34))
 replace R1 := Aside0.mk (Kd.R_alloc R1 (.cells #[.slice A0 l0.length c0, .slice A1 l1.length c1, .int .i64 l2, .slice A3 l3.length c3, .slice A4 l4.length c4, .slice A5 l5.length c5] 34))
 replace R3 := Aside0.mk (Kd.Q_alloc R3 (.cells #[.slice A0 l0.length c0, .slice A1 l1.length c1, .int .i64 l2, .slice A3 l3.length c3, .slice A4 l4.length c4, .slice A5 l5.length c5] 34))
 replace R4 := Aside0.mk (Kd.Q_alloc R4 (.cells #[.slice A0 l0.length c0, .slice A1 l1.length c1, .int .i64 l2, .slice A3 l3.length c3, .slice A4 l4.length c4, .slice A5 l5.length c5] 34))
 replace R5 := Aside0.mk (Kd.Q_alloc R5 (.cells #[.slice A0 l0.length c0, .slice A1 l1.length c1, .int .i64 l2, .slice A3 l3.length c3, .slice A4 l4.length c4, .slice A5 l5.length c5] 34))
 have HB := Aside0.mk (Own.below_more hB (.cells #[.slice A0 l0.length c0, .slice A1 l1.length c1, .int .i64 l2, .slice A3 l3.length c3, .slice A4 l4.length c4, .slice A5 l5.length c5] 34))
 have BX := Aside0.mk (blk_new w (.cells #[.slice A0 l0.length c0, .slice A1 l1.length c1, .int .i64 l2, .slice A3 l3.length c3, .slice A4 l4.length c4, .slice A5 l5.length c5] 34))
 have HK := Aside0.mk (Kept.alloc (Kept.refl w ok) (.cells #[.slice A0 l0.length c0, .slice A1 l1.length c1, .int .i64 l2, .slice A3 l3.length c3, .slice A4 l4.length c4, .slice A5 l5.length c5] 34))
 have L0 := Aside0.mk hB.size
 clear hB
 have O0 := Aside0.mk o0
 have O1 := Aside0.mk o1
 have O3 := Aside0.mk o3
 have O4 := Aside0.mk o4
 have O5 := Aside0.mk o5
 have X01 := Aside0.mk x01
 have X03 := Aside0.mk x03
 have X04 := Aside0.mk x04
 have X05 := Aside0.mk x05
 have X13 := Aside0.mk x13
 have X14 := Aside0.mk x14
 have X15 := Aside0.mk x15
 have X34 := Aside0.mk x34
 have X35 := Aside0.mk x35
 have X45 := Aside0.mk x45
 clear o0 o1 o3 o4 o5 x01 x03 x04 x05 x13 x14 x15 x34 x35 x45
 have bx : ∀ k, P0 k ∨ P1 k ∨ P3 k ∨ P4 k ∨ P5 k → k < (w.alloc (.cells #[.slice A0 l0.length c0, .slice A1 l1.length c1, .int .i64 l2, .slice A3 l3.length c3, .slice A4 l4.length c4, .slice A5 l5.length c5] 34)).heap.size → True := fun _ _ _ => trivial
 clear bx
 have nb0 : ¬ P0 w.heap.size := fun h => Nat.lt_irrefl _ (bd0 _ h)
 have nb1 : ¬ P1 w.heap.size := fun h => Nat.lt_irrefl _ (bd1 _ h)
 have nb3 : ¬ P3 w.heap.size := fun h => Nat.lt_irrefl _ (bd3 _ h)
 have nb4 : ¬ P4 w.heap.size := fun h => Nat.lt_irrefl _ (bd4 _ h)
 have nb5 : ¬ P5 w.heap.size := fun h => Nat.lt_irrefl _ (bd5 _ h)
 go_enter Try.func14, Try.ntmps14
 have hx0 : (w.alloc (.cells #[.slice A0 l0.length c0, .slice A1 l1.length c1, .int .i64 l2, .slice A3 l3.length c3, .slice A4 l4.length c4, .slice A5 l5.length c5] 34)).cell? ⟨w.heap.size, 0, none⟩ = some (.slice A0 l0.length c0) := (blk_cell BX.out 0).trans rfl
 have hx1 : (w.alloc (.cells #[.slice A0 l0.length c0, .slice A1 l1.length c1, .int .i64 l2, .slice A3 l3.length c3, .slice A4 l4.length c4, .slice A5 l5.length c5] 34)).cell? ⟨w.heap.size, 1, none⟩ = some (.slice A1 l1.length c1) := (blk_cell BX.out 1).trans rfl
 go_wp2_with fail
 clear hx0 hx1
 ((with_reducible refine (laws_markDisk.calls k P0 _ l0 P1 _ l1 a t1 q0 q1 w0 _ HB.out R0.out R1.out K1.out).mono ?_); rintro e w1 ⟨rfl, G0, G1, hB1, hK1⟩)
 clear HB R0 R1
 have HB := Aside0.mk hB1
 have hK2 := Aside0.mk hK1
 have R0 := Aside0.mk G0
 have R1 := Aside0.mk G1
 replace R3 := Aside0.mk (Kd.Q_kept R3.out hK1 (fun k hk h => h.elim (fun h => X03.out k h hk) (fun h => X13.out k h hk)))
 replace R4 := Aside0.mk (Kd.Q_kept R4.out hK1 (fun k hk h => h.elim (fun h => X04.out k h hk) (fun h => X14.out k h hk)))
 replace R5 := Aside0.mk (Kd.Q_kept R5.out hK1 (fun k hk h => h.elim (fun h => X05.out k h hk) (fun h => X15.out k h hk)))
 replace BX := Aside0.mk (blk_kept BX.out hK1 (fun h => h.elim (fun h => nb0 h) (fun h => nb1 h)))
 replace HK := Aside0.mk (HK.out.then_ hK1 (fun k h => .inl (h.elim (O0.out k) (O1.out k))))
 clear G0 G1 hB1 hK1 hK2
 have hx : w1.cell? ⟨w.heap.size, 3, none⟩ = some (.slice A3 l3.length c3) := (blk_cell BX.out 3).trans rfl
 go_wp2_with fail
 clear hx
 ((with_reducible refine (markIntS_Q k P3 _ l3 t1 t2 q3 w0 _ HB.out R3.out K2.out).mono ?_); rintro e w2 ⟨rfl, G3, hB1, hK1⟩)
 clear HB R3
 have HB := Aside0.mk hB1
 have R3 := Aside0.mk G3
 replace R0 := Aside0.mk (Kd.R_kept (Kd.R_mono (Own.R_tight2 rfl R0.out e0) (fun k hk => hk)) hK1 (fun k hk => fun h => X03.out k hk h))
 replace R1 := Aside0.mk (Kd.R_kept (Kd.R_mono (Own.R_tight2 rfl R1.out e1) (fun k hk => hk)) hK1 (fun k hk => fun h => X13.out k hk h))
 replace R4 := Aside0.mk (Kd.Q_kept R4.out hK1 (fun k hk => fun h => X34.out k h hk))
 replace R5 := Aside0.mk (Kd.Q_kept R5.out hK1 (fun k hk => fun h => X35.out k h hk))
 replace BX := Aside0.mk (blk_kept BX.out hK1 nb3)
 replace HK := Aside0.mk (HK.out.then_ hK1 (fun k h => .inl (O3.out k h)))
 clear G3 hB1 hK1
 have hx : w2.cell? ⟨w.heap.size, 4, none⟩ = some (.slice A4 l4.length c4) := (blk_cell BX.out 4).trans rfl
 go_wp2_with fail
 clear hx
 ((with_reducible refine (markIntS_Q k P4 _ l4 t2 t3 q4 w0 _ HB.out R4.out K3.out).mono ?_); rintro e w3 ⟨rfl, G4, hB1, hK1⟩)
 clear HB R4
 have HB := Aside0.mk hB1
 have R4 := Aside0.mk G4
 replace R0 := Aside0.mk (Kd.R_kept (Kd.R_mono (Own.R_tight2 rfl R0.out e0) (fun k hk => hk)) hK1 (fun k hk => fun h => X04.out k hk h))
 replace R1 := Aside0.mk (Kd.R_kept (Kd.R_mono (Own.R_tight2 rfl R1.out e1) (fun k hk => hk)) hK1 (fun k hk => fun h => X14.out k hk h))
 replace R3 := Aside0.mk (Kd.Q_kept (Own.Q_tight2 rfl R3.out e3) hK1 (fun k hk => fun h => X34.out k hk h))
 replace R5 := Aside0.mk (Kd.Q_kept R5.out hK1 (fun k hk => fun h => X45.out k h hk))
 replace BX := Aside0.mk (blk_kept BX.out hK1 nb4)
 replace HK := Aside0.mk (HK.out.then_ hK1 (fun k h => .inl (O4.out k h)))
 clear G4 hB1 hK1
 have hx : w3.cell? ⟨w.heap.size, 5, none⟩ = some (.slice A5 l5.length c5) := (blk_cell BX.out 5).trans rfl
 go_wp2_with fail
 clear hx
 ((with_reducible refine (markIntS_Q k P5 _ l5 t3 r q5 w0 _ HB.out R5.out K4.out).mono ?_); rintro e w4 ⟨rfl, G5, hB1, hK1⟩)
 clear HB R5
 have HB := Aside0.mk hB1
 have R5 := Aside0.mk G5
 replace R0 := Aside0.mk (Kd.R_kept (Kd.R_mono (Own.R_tight2 rfl R0.out e0) (fun k hk => hk)) hK1 (fun k hk => fun h => X05.out k hk h))
 replace R1 := Aside0.mk (Kd.R_kept (Kd.R_mono (Own.R_tight2 rfl R1.out e1) (fun k hk => hk)) hK1 (fun k hk => fun h => X15.out k hk h))
 replace R3 := Aside0.mk (Kd.Q_kept (Own.Q_tight2 rfl R3.out e3) hK1 (fun k hk => fun h => X35.out k hk h))
 replace R4 := Aside0.mk (Kd.Q_kept (Own.Q_tight2 rfl R4.out e4) hK1 (fun k hk => fun h => X45.out k hk h))
 replace BX := Aside0.mk (blk_kept BX.out hK1 nb5)
 replace HK := Aside0.mk (HK.out.then_ hK1 (fun k h => .inl (O5.out k h)))
 clear G5 hB1 hK1
 go_wp2
 go_ret
 refine ⟨rfl, ?_, HB.out, HK.out⟩
 exact kWork_mkM (Own.R_tight2 rfl R0.out e0) (Own.R_tight2 rfl R1.out e1) (Own.Q_tight2 rfl R3.out e3) (Own.Q_tight2 rfl R4.out e4) (Own.Q_tight2 rfl R5.out e5) O0.out O1.out O3.out O4.out O5.out X01.out X03.out X04.out X05.out X13.out X14.out X15.out X34.out X35.out X45.out
end Go.Proofs.Ytonhdiemjgdcnaa.PFnExactGivePage
namespace Go.Proofs.YtonhdiemjgdcnaaW.PrintLast
open Go.Proofs.YtonhdiemjgdcnaaW.PrintWords (Aside0)
inductive Stp where
 | p (i : Nat) | t (i : Nat) | e (i : Nat) | l (i : Nat)
section
variable {P : Program} {ops : Array Oper} {Q : Exit → Act → World → Prop} {S : World → Prop} {ds : List Nat} {T : Bool × List (List Nat × List Nat)} {B : List Nat} {N : Option Tmp} {o : Oper} {v : Value} {a : Act} {w : World} {i : Nat} {r : List Stp}
def walkB (T : Bool × List (List Nat × List Nat)) (B ds : List Nat) : Bool → List Bool → List Stp → Bool
 | _, l, [] => readyT T.2 l == []
 | k, l, .p i :: r => (T.1 && freeT T.2 l i && readyAt T.2 l i) && walkB T B ds k (l.set i true) r
 | k, l, .t i :: r => (k && takeW T B ds l (l.set i true) i) && walkB T B ds k (l.set i true) r
 | _, l, .e i :: r => (readyT T.2 l == [i] && !ds.contains i) && walkB T B ds true (l.set i true) r
 | _, l, .l i :: r => (readyT T.2 l == [i] && ds.contains i) && walkB T B ds false (l.set i true) r
def regB (ops : Array Oper) (T : Bool × List (List Nat × List Nat)) (B ds : List Nat) (r : List Stp) : Bool := rtab .any ops == T && waitsOk T.2 B && r.length == ops.size && walkB T B ds true (List.replicate ops.size false) r
theorem put_with (a : Act) (d : Option Tmp) (v : Value) : a.put d v = { a with tmps := (a.put d v).tmps } := by cases d <;> rfl
def wpSeq (P : Program) (ops : Array Oper) (Q : Exit → Act → World → Prop) (S : World → Prop) : List Stp → Act → World → Prop
 | [], a, w => Q .normal a w
 | .p i :: r, a, w => ∃ o v, ops[i]? = some o ∧ Yields P ops o v a ∧ wpSeq P ops Q S r (a.put o.dst v) w
 | .t i :: r, a, w => ∃ o v, ops[i]? = some o ∧ YieldsIf P ops S o v a ∧ wpSeq P ops Q S r (a.put o.dst v) w
 | .e i :: r, a, w => ∃ o, ops[i]? = some o ∧ ∀ K : Act → World → Prop, Shut (∀ a' w', S w' → (S w' → wpSeq P ops Q S r a' w') → K a' w') → if Region.wanted o (yielded ops a.tmps) = true then Oper.wp P o a w K Q else K (a.put o.dst undef) w
 | .l i :: r, a, w => ∃ o, ops[i]? = some o ∧ ∀ K : Act → World → Prop, Shut (∀ a' w', wpSeq P ops Q S r a' w' → K a' w') → if Region.wanted o (yielded ops a.tmps) = true then Oper.wp P o a w K Q else K (a.put o.dst undef) w
theorem wpSeq_sound (hT : rtab .any ops = T) (hB : waitsOk T.2 B = true) (hQ : ∀ c (a : Act) ts w, Q (.panic c) { a with tmps := ts } w → Q (.panic c) a w) : ∀ (r : List Stp) (k : Bool) (l : List Bool) (a : Act) (w : World),
  walkB T B ds k l r = true → (k = true → S w) → wpSeq P ops Q S r a w → wpAnyLast P .any ops Q S ds r.length l.toArray a w
 | [], k, l, a, w, hc, hS, h => ⟨by subst hT; rw [ready_eq]; simpa [walkB] using hc, h⟩
 | .p i :: r, k, l, a, w, hc, hS, h => by
  simp only [walkB, Bool.and_eq_true] at hc
  obtain ⟨⟨⟨h1, h2⟩, h3⟩, h4⟩ := hc
  obtain ⟨o, v, ho, hy, hr⟩ := h
  refine pure_ (l.set i true).toArray ho rfl (any_of hT ?_) (fun c a w hh => hQ c a (a.put o.dst v).tmps w (by rw [← put_with]; exact hh)) hy rfl (wpSeq_sound hT hB hQ r k _ _ w h4 hS hr)
  simp only [anyT, Bool.and_eq_true]
  exact ⟨⟨⟨h1, h2⟩, h3⟩, by simp⟩
 | .t i :: r, k, l, a, w, hc, hS, h => by
  simp only [walkB, Bool.and_eq_true] at hc
  obtain ⟨⟨h1, h2⟩, h4⟩ := hc
  obtain ⟨o, v, ho, hy, hr⟩ := h
  exact take_ (l.set i true).toArray ho rfl (take_ofW hT hB h2) (fun c a w hh => hQ c a (a.put o.dst v).tmps w (by rw [← put_with]; exact hh)) hy (hS h1) rfl (wpSeq_sound hT hB hQ r k _ _ w h4 hS hr)
 | .e i :: r, k, l, a, w, hc, hS, h => by
  simp only [walkB, Bool.and_eq_true] at hc
  obtain ⟨⟨h1, h2⟩, h4⟩ := hc
  obtain ⟨o, ho, hr⟩ := h
  refine one_ (l.set i true).toArray ho rfl (one_of hT ?_) (by simpa using h2) (fun K hK => hr K (fun a' w' hs hw => hK.out a' w' hs fun hs => wpSeq_sound hT hB hQ r true _ a' w' h4 (fun _ => hs) (hw hs)))
  simp only [Bool.and_eq_true]
  exact ⟨h1, by simp⟩
 | .l i :: r, k, l, a, w, hc, hS, h => by
  simp only [walkB, Bool.and_eq_true] at hc
  obtain ⟨⟨h1, h2⟩, h4⟩ := hc
  obtain ⟨o, ho, hr⟩ := h
  refine last_ (l.set i true).toArray ho rfl (one_of hT ?_) (by simpa using h2) (fun K hK => hr K (fun a' w' hw => hK.out a' w' (wpSeq_sound hT hB hQ r false _ a' w' h4 (fun h => by cases h) hw)))
  simp only [Bool.and_eq_true]
  exact ⟨h1, by simp⟩
theorem seq_start {id : Nat} (hc : regB ops T B ds r = true) (hm : P.follows .mixedOrders = true) (hQ : ∀ c (a : Act) ts w, Q (.panic c) { a with tmps := ts } w → Q (.panic c) a w) (hS : S w.drew) (h : S w.drew → wpSeq P ops Q S r a w.drew) : (Code.region id ops true).wp P Q a w := by
 simp only [regB, Bool.and_eq_true, beq_iff_eq] at hc
 obtain ⟨⟨⟨h1, h2⟩, h3⟩, h4⟩ := hc
 refine start_ (ds := ds) (List.replicate ops.size false).toArray hm rfl (by simp) hS (fun hs => ?_)
 rw [← h3]
 exact wpSeq_sound h1 h2 hQ r true _ a _ (by rw [h3]; exact h4) (fun _ => hs) (h hs)
theorem seq_p (ho : ops[i]? = some o) (hN : o.dst = N) (hy : Yields P ops o v a) {a' : Act} (ha : a.put N v = a') (h : wpSeq P ops Q S r a' w) : wpSeq P ops Q S (.p i :: r) a w := by
 subst hN; subst ha; exact ⟨o, v, ho, hy, h⟩
theorem seq_t (ho : ops[i]? = some o) (hN : o.dst = N) (hy : YieldsIf P ops S o v a) {a' : Act} (ha : a.put N v = a') (h : wpSeq P ops Q S r a' w) : wpSeq P ops Q S (.t i :: r) a w := by
 subst hN; subst ha; exact ⟨o, v, ho, hy, h⟩
theorem seq_e (ho : ops[i]? = some o) (hN : o.dst = N) (h : ∀ K : Act → World → Prop, Shut (∀ a' w', S w' → (S w' → wpSeq P ops Q S r a' w') → K a' w') → if Region.wanted o (yielded ops a.tmps) = true then Oper.wp P o a w K Q else K (a.put N undef) w) : wpSeq P ops Q S (.e i :: r) a w := by
 subst hN; exact ⟨o, ho, h⟩
theorem seq_done (h : Q .normal a w) : wpSeq P ops Q S [] a w := h
theorem seq_norm {a' : Act} (ha : a = a') (h : wpSeq P ops Q S r a' w) : wpSeq P ops Q S r a w := by subst ha; exact h
theorem seq_call {f : FuncId} {fn : Func} {aa : Array Operand} {ts : Array TypeId} (ho : ops[i]? = some o) (hN : o.dst = N) (hf : P.funcs[f]? = some fn) (hname : (fn.name == "runtime.NumGoroutine") = false) (hb : fn.body.isSome = true) (args : Array Value)
  (hw : Region.wanted o (yielded ops a.tmps) = true) (hop : o.op = .call { callee := .value (.func f), args := aa, argTypes := ts }) (hargs : aa.map a.eval = args)
  (h : Calls P f args w fun e w' => ∃ v, e = .returned v ∧ S w' ∧ (S w' → wpSeq P ops Q S r (a.put N v) w')) : wpSeq P ops Q S (.e i :: r) a w :=
 seq_e ho hN fun K hK => goes_ hf hname hb args hw hN hop hargs (h.mono fun e w' ⟨v, he, hs, hk⟩ => ⟨v, he, hK.out _ _ hs hk⟩)
end
end Go.Proofs.YtonhdiemjgdcnaaW.PrintLast
namespace Go.Proofs.Ytonhdiemjgdcnaa.PFnExactGivePage
open Go.RowKit Go.Proofs.YtonhdiemjgdcnaaW.PrintWords Go.Proofs.YtonhdiemjgdcnaaW.PrintLast Go.Proofs.YtonhdiemjgdcnaaW.PrintMore
attribute [local go_sem] max2_int min2_int max_two min_two max_three min_three max_four min_four
theorem give_small (k : Nat) (l0 : List ByteArray) (l1 : List S140) (l2 : Int) (l3 : List Int) (l4 : List Int) (l5 : List Int) (Aa0 : Option Addr) (ca0 : Nat) (Aa1 : Option Addr) (ca1 : Nat) (Aa3 : Option Addr) (ca3 : Nat) (Aa4 : Option Addr) (ca4 : Nat) (Aa5 : Option Addr) (ca5 : Nat) (r : Int) (w : World) (ha : kWorkL.K w (l0, l1, l2, l3, l4, l5) [.slice Aa0 l0.length ca0, .slice Aa1 l1.length ca1, .int .i64 l2, .slice Aa3 l3.length ca3, .slice Aa4 l4.length ca4, .slice Aa5 l5.length ca5]) (hsz : laws_szWork.f k l0 l1 l2 l3 l4 l5 1048576 = some r) (hr : r < 0) :
  Calls Try.prog 3 #[.agg #[.slice Aa0 l0.length ca0, .slice Aa1 l1.length ca1, .int .i64 l2, .slice Aa3 l3.length ca3, .slice Aa4 l4.length ca4, .slice Aa5 l5.length ca5]] w fun e w' => e = .returned (.bool true) ∧ Below w.heap.size w w' := by
 have HA := Aside0.mk ha
 have HSZ := Aside0.mk hsz
 have hr : decide (r < 0) = true := decide_eq_true hr
 clear ha hsz
 have BA := Aside0.mk (blk_new w (.cells #[.slice Aa0 l0.length ca0, .slice Aa1 l1.length ca1, .int .i64 l2, .slice Aa3 l3.length ca3, .slice Aa4 l4.length ca4, .slice Aa5 l5.length ca5] 28))
 have HB := Aside0.mk (below_alloc (Below.refl w.heap.size w) (.cells #[.slice Aa0 l0.length ca0, .slice Aa1 l1.length ca1, .int .i64 l2, .slice Aa3 l3.length ca3, .slice Aa4 l4.length ca4, .slice Aa5 l5.length ca5] 28))
 have HAL := Aside0.mk (show w.heap.size < (w.alloc (.cells #[.slice Aa0 l0.length ca0, .slice Aa1 l1.length ca1, .int .i64 l2, .slice Aa3 l3.length ca3, .slice Aa4 l4.length ca4, .slice Aa5 l5.length ca5] 28)).heap.size from blk_lt BA.out)
 go_enter Try.func3, Try.ntmps3
 go_wp2_with (((with_reducible refine gate_dst (N := 14) rfl ?_); refine ev_loadrow rfl 28 _ rfl w.heap.size #[.slice Aa0 l0.length ca0, .slice Aa1 l1.length ca1, .int .i64 l2, .slice Aa3 l3.length ca3, .slice Aa4 l4.length ca4, .slice Aa5 l5.length ca5] 28 _ rfl BA.out Try.underlying28 rfl (by kernel_rfl) ?_))
 ((with_reducible refine (szWork_o k l0 l1 l2 l3 l4 l5 r _ (kWorkL.K_below HB.out HA.out) HSZ.out).mono ?_); rintro e w1 ⟨rfl, hb⟩)
 replace BA := Aside0.mk (blk_below BA.out (hb))
 replace HB := Aside0.mk (below_step HB.out (hb))
 clear hb
 go_wp2
 go_ret
 exact ⟨rfl, HB.out⟩
def give.T10 : Bool × List (List Nat × List Nat) := (true, [([], []), ([], []), ([1], [1]), ([0, 2, 2], [0, 2]), ([3], [3])])
def give.B10 : List Nat := [0, 0, 2, 7, 15]
theorem give.ok10_0 : regB (opsOf Try.f3 10) give.T10 give.B10 [] [.t 0, .t 1, .e 2, .e 3, .p 4] = true := by kernel_rfl
theorem give_great (k : Nat) (l0 : List ByteArray) (l1 : List S140) (l2 : Int) (l3 : List Int) (l4 : List Int) (l5 : List Int) (Aa0 : Option Addr) (ca0 : Nat) (Aa1 : Option Addr) (ca1 : Nat) (Aa3 : Option Addr) (ca3 : Nat) (Aa4 : Option Addr) (ca4 : Nat) (Aa5 : Option Addr) (ca5 : Nat) (r : Int) (m0 : List ByteArray) (m1 : List S135) (m2 : Int) (m3 : List Int) (m4 : List Int) (m5 : List Int) (y0 : List ByteArray) (y1 : List S135) (y2 : Int) (y3 : List Int) (y4 : List Int) (y5 : List Int) (p : Int) (x0 : List ByteArray) (x1 : List S135) (x3 : List Int) (x4 : List Int) (x5 : List Int) (z0 : List ByteArray) (z1 : List S135) (z3 : List Int) (z4 : List Int) (z5 : List Int) (u1 u2 u3 mk v1 v2 v3 mg : Int) (w : World) (ha : kWorkL.K w (l0, l1, l2, l3, l4, l5) [.slice Aa0 l0.length ca0, .slice Aa1 l1.length ca1, .int .i64 l2, .slice Aa3 l3.length ca3, .slice Aa4 l4.length ca4, .slice Aa5 l5.length ca5]) (hr : ¬ r < 0) (hsz : laws_szWork.f k l0 l1 l2 l3 l4 l5 1048576 = some r) (hto : laws_toWork.f k l0 l1 l2 l3 l4 l5 = some (m0, m1, m2, m3, m4, m5)) (hsp : spec_GivePage.f m0 m1 m2 m3 m4 m5 = some (y0, y1, y2, y3, y4, y5, p)) (him : impl_GivePage.f m0 m1 m2 m3 m4 m5 = some (y0, y1, y2, y3, y4, y5, p)) (heq : laws_eqWork.f k y0 y1 y2 y3 y4 y5 y0 y1 y2 y3 y4 y5 = some true) (hex : laws_eqWork.f k m0 m1 m2 m3 m4 m5 m0 m1 m2 m3 m4 m5 = some true) (f1 : laws_markDisk.f k m0 m1 1 = some (u1, x0, x1)) (f2 : laws_markIntS.f k m3 u1 = some (u2, x3)) (f3 : laws_markIntS.f k m4 u2 = some (u3, x4)) (f4 : laws_markIntS.f k m5 u3 = some (mk, x5)) (hmk : ¬ mk < 0) (g1 : laws_markDisk.f k y0 y1 1 = some (v1, z0, z1)) (g2 : laws_markIntS.f k y3 v1 = some (v2, z3)) (g3 : laws_markIntS.f k y4 v2 = some (v3, z4)) (g4 : laws_markIntS.f k y5 v3 = some (mg, z5)) (hmg : ¬ mg < 0) (hhd : laws_heldWork.f k z0 z1 y2 z3 z4 z5 1 = some mg) :
  Calls Try.prog 3 #[.agg #[.slice Aa0 l0.length ca0, .slice Aa1 l1.length ca1, .int .i64 l2, .slice Aa3 l3.length ca3, .slice Aa4 l4.length ca4, .slice Aa5 l5.length ca5]] w fun e w' => e = .returned (.bool true) ∧ Below w.heap.size w w' := by
 have HA := Aside0.mk ha
 have hr : decide (r < 0) = false := decide_eq_false hr
 clear ha
 have HSZ := Aside0.mk hsz
 have HTO := Aside0.mk hto
 have HSP := Aside0.mk hsp
 have HIM := Aside0.mk him
 have HEQ := Aside0.mk heq
 have HEX := Aside0.mk hex
 have X1 := Aside0.mk f1
 have X2 := Aside0.mk f2
 have X3 := Aside0.mk f3
 have X4 := Aside0.mk f4
 have HMK := Aside0.mk hmk
 have Z1 := Aside0.mk g1
 have Z2 := Aside0.mk g2
 have Z3 := Aside0.mk g3
 have Z4 := Aside0.mk g4
 have HMG := Aside0.mk hmg
 have HHD := Aside0.mk hhd
 clear hsz hto hsp him heq hex f1 f2 f3 f4 hmk g1 g2 g3 g4 hmg hhd
 have BA := Aside0.mk (blk_new w (.cells #[.slice Aa0 l0.length ca0, .slice Aa1 l1.length ca1, .int .i64 l2, .slice Aa3 l3.length ca3, .slice Aa4 l4.length ca4, .slice Aa5 l5.length ca5] 28))
 have HB := Aside0.mk (below_alloc (Below.refl w.heap.size w) (.cells #[.slice Aa0 l0.length ca0, .slice Aa1 l1.length ca1, .int .i64 l2, .slice Aa3 l3.length ca3, .slice Aa4 l4.length ca4, .slice Aa5 l5.length ca5] 28))
 have HAL := Aside0.mk (show w.heap.size < (w.alloc (.cells #[.slice Aa0 l0.length ca0, .slice Aa1 l1.length ca1, .int .i64 l2, .slice Aa3 l3.length ca3, .slice Aa4 l4.length ca4, .slice Aa5 l5.length ca5] 28)).heap.size from blk_lt BA.out)
 go_enter Try.func3, Try.ntmps3
 go_wp2_with (((with_reducible refine gate_dst (N := 14) rfl ?_); refine ev_loadrow rfl 28 _ rfl w.heap.size #[.slice Aa0 l0.length ca0, .slice Aa1 l1.length ca1, .int .i64 l2, .slice Aa3 l3.length ca3, .slice Aa4 l4.length ca4, .slice Aa5 l5.length ca5] 28 _ rfl BA.out Try.underlying28 rfl (by kernel_rfl) ?_))
 ((with_reducible refine (szWork_o k l0 l1 l2 l3 l4 l5 r _ (kWorkL.K_below HB.out HA.out) HSZ.out).mono ?_); rintro e w1 ⟨rfl, hb⟩)
 replace BA := Aside0.mk (blk_below BA.out (hb))
 replace HB := Aside0.mk (below_step HB.out (hb))
 clear hb
 clear HAL
 have S1 := Aside0.mk (blk_lt BA.out)
 go_wp2_with (((with_reducible refine gate_dst (N := 20) rfl ?_); refine ev_loadrow rfl 28 _ rfl w.heap.size #[.slice Aa0 l0.length ca0, .slice Aa1 l1.length ca1, .int .i64 l2, .slice Aa3 l3.length ca3, .slice Aa4 l4.length ca4, .slice Aa5 l5.length ca5] 28 _ rfl BA.out Try.underlying28 rfl (by kernel_rfl) ?_))
 ((with_reducible refine (toWork_o k l0 l1 l2 l3 l4 l5 m0 m1 m2 m3 m4 m5 _ (kWorkL.K_below HB.out HA.out) HTO.out).mono ?_); rintro e w2 ⟨cs, rfl, M, hb⟩)
 have SZ := Aside0.mk hb.size
 replace BA := Aside0.mk (blk_below BA.out (hb))
 replace HB := Aside0.mk (below_step HB.out (hb))
 clear hb
 have S2 := Aside0.mk (blk_lt BA.out)
 clear S1
 obtain ⟨Aq0, cq0, Aq1, cq1, Aq3, cq3, Aq4, cq4, Aq5, cq5, rfl, -⟩ := kWork_open (kWork.K_of_M M)
 have RQ := Aside0.mk M
 clear M SZ
 go_wp2_with fail
 ((with_reducible refine (specGive_o m0 m1 m2 m3 m4 m5 y0 y1 y2 y3 y4 y5 p _ (kWork.K_of_M RQ.out) HSP.out).mono ?_); rintro e w3 ⟨cs, rfl, M, hb⟩)
 have SZ := Aside0.mk hb.size
 replace BA := Aside0.mk (blk_below BA.out (hb))
 replace HB := Aside0.mk (below_step HB.out (hb))
 clear hb
 clear RQ
 obtain ⟨Aw0, cw0, Aw1, cw1, Aw3, cw3, Aw4, cw4, Aw5, cw5, rfl, -⟩ := kWork_open (kWork.K_of_M M)
 have S23 := Aside0.mk (show w2.heap.size ≤ w3.heap.size from SZ.out)
 have RW := Aside0.mk (kWork.M_lower (Nat.le_of_lt S2.out) M)
 clear M SZ
 go_upto_region 6 with (((with_reducible refine gate_store (t := 34) (p := 4) rfl ?_); refine ev_storerow rfl 34 _ _ rfl rfl w3.heap.size [.slice Aw0 y0.length cw0, .slice Aw1 y1.length cw1, .int .i64 y2, .slice Aw3 y3.length cw3, .slice Aw4 y4.length cw4, .slice Aw5 y5.length cw5] #[.slice none 0 0, .slice none 0 0, .int .i64 0, .slice none 0 0, .slice none 0 0, .slice none 0 0] 34 rfl rfl (blk_new w3 (.cells #[.slice none 0 0, .slice none 0 0, .int .i64 0, .slice none 0 0, .slice none 0 0, .slice none 0 0] 34)) (by kernel_rfl) (Nat.le_refl 6) rfl ?_))
 obtain ⟨w4, hw⟩ : ∃ W, W = puts (w3.alloc (.cells #[.slice none 0 0, .slice none 0 0, .int .i64 0, .slice none 0 0, .slice none 0 0, .slice none 0 0] 34)) w3.heap.size 0 [.slice Aw0 y0.length cw0, .slice Aw1 y1.length cw1, .int .i64 y2, .slice Aw3 y3.length cw3, .slice Aw4 y4.length cw4, .slice Aw5 y5.length cw5] := ⟨_, rfl⟩
 obtain ⟨hb, hn⟩ := box_new (zs := [.slice none 0 0, .slice none 0 0, .int .i64 0, .slice none 0 0, .slice none 0 0, .slice none 0 0]) hw rfl
 rw [← hw]
 clear hw
 replace BA := Aside0.mk (blk_below BA.out (hb))
 replace HB := Aside0.mk (below_step HB.out (hb))
 replace RW := Aside0.mk (Kd.M_below RW.out (hb))
 have BW := Aside0.mk hn
 have BWL := Aside0.mk (blk_lt hn)
 clear hb hn
 go_wp2_with (((with_reducible refine gate_dst (N := 25) rfl ?_); refine ev_loadrow rfl 28 _ rfl w.heap.size #[.slice Aa0 l0.length ca0, .slice Aa1 l1.length ca1, .int .i64 l2, .slice Aa3 l3.length ca3, .slice Aa4 l4.length ca4, .slice Aa5 l5.length ca5] 28 _ rfl BA.out Try.underlying28 rfl (by kernel_rfl) ?_))
 ((with_reducible refine (toWork_o k l0 l1 l2 l3 l4 l5 m0 m1 m2 m3 m4 m5 _ (kWorkL.K_below HB.out HA.out) HTO.out).mono ?_); rintro e w5 ⟨cs, rfl, M, hb⟩)
 have SZ := Aside0.mk hb.size
 replace BA := Aside0.mk (blk_below BA.out (hb))
 replace HB := Aside0.mk (below_step HB.out (hb))
 replace RW := Aside0.mk (Kd.M_below RW.out (hb))
 replace BW := Aside0.mk (blk_below BW.out (hb))
 clear hb
 obtain ⟨Ax0, cx0, Ax1, cx1, Ax3, cx3, Ax4, cx4, Ax5, cx5, rfl, -⟩ := kWork_open (kWork.K_of_M M)
 have S45 := Aside0.mk (show w4.heap.size ≤ w5.heap.size from SZ.out)
 have S04 := Aside0.mk (show w.heap.size ≤ w4.heap.size by have := S2.out; have := S23.out; have := BWL.out; omega)
 have RX := Aside0.mk (kWork.M_lower S04.out M)
 clear M SZ
 go_upto_region 7 with (((with_reducible refine gate_store (t := 34) (p := 6) rfl ?_); refine ev_storerow rfl 34 _ _ rfl rfl w5.heap.size [.slice Ax0 m0.length cx0, .slice Ax1 m1.length cx1, .int .i64 m2, .slice Ax3 m3.length cx3, .slice Ax4 m4.length cx4, .slice Ax5 m5.length cx5] #[.slice none 0 0, .slice none 0 0, .int .i64 0, .slice none 0 0, .slice none 0 0, .slice none 0 0] 34 rfl rfl (blk_new w5 (.cells #[.slice none 0 0, .slice none 0 0, .int .i64 0, .slice none 0 0, .slice none 0 0, .slice none 0 0] 34)) (by kernel_rfl) (Nat.le_refl 6) rfl ?_))
 obtain ⟨w6, hw⟩ : ∃ W, W = puts (w5.alloc (.cells #[.slice none 0 0, .slice none 0 0, .int .i64 0, .slice none 0 0, .slice none 0 0, .slice none 0 0] 34)) w5.heap.size 0 [.slice Ax0 m0.length cx0, .slice Ax1 m1.length cx1, .int .i64 m2, .slice Ax3 m3.length cx3, .slice Ax4 m4.length cx4, .slice Ax5 m5.length cx5] := ⟨_, rfl⟩
 obtain ⟨hb, hn⟩ := box_new (zs := [.slice none 0 0, .slice none 0 0, .int .i64 0, .slice none 0 0, .slice none 0 0, .slice none 0 0]) hw rfl
 rw [← hw]
 clear hw
 replace BA := Aside0.mk (blk_below BA.out (hb))
 replace HB := Aside0.mk (below_step HB.out (hb))
 replace RW := Aside0.mk (Kd.M_below RW.out (hb))
 replace BW := Aside0.mk (blk_below BW.out (hb))
 replace RX := Aside0.mk (Kd.M_below RX.out (hb))
 have BX := Aside0.mk hn
 have BXL := Aside0.mk (blk_lt hn)
 clear hb hn
 go_wp2_with (((with_reducible refine gate_dst (N := 28) rfl ?_); refine ev_loadrow rfl 34 _ rfl w5.heap.size #[.slice Ax0 m0.length cx0, .slice Ax1 m1.length cx1, .int .i64 m2, .slice Ax3 m3.length cx3, .slice Ax4 m4.length cx4, .slice Ax5 m5.length cx5] 34 _ rfl BX.out Try.underlying34 rfl (by kernel_rfl) ?_))
 ((with_reducible refine (implGive_o m0 m1 m2 m3 m4 m5 y0 y1 y2 y3 y4 y5 p _ (kWork.K_of_M RX.out) HIM.out).mono ?_); rintro e w7 ⟨cs, rfl, M, hb⟩)
 have SZ := Aside0.mk hb.size
 replace BA := Aside0.mk (blk_below BA.out (hb))
 replace HB := Aside0.mk (below_step HB.out (hb))
 replace RW := Aside0.mk (Kd.M_below RW.out (hb))
 replace BW := Aside0.mk (blk_below BW.out (hb))
 replace RX := Aside0.mk (Kd.M_below RX.out (hb))
 replace BX := Aside0.mk (blk_below BX.out (hb))
 clear hb
 obtain ⟨Ag0, cg0, Ag1, cg1, Ag3, cg3, Ag4, cg4, Ag5, cg5, rfl, -⟩ := kWork_open (kWork.K_of_M M)
 have S67 := Aside0.mk (show w6.heap.size ≤ w7.heap.size from SZ.out)
 have S06 := Aside0.mk (show w.heap.size ≤ w6.heap.size by have := S04.out; have := S45.out; have := BXL.out; omega)
 have RG := Aside0.mk (kWork.M_lower S06.out M)
 clear M SZ
 go_upto_region 8 with (((with_reducible refine gate_store (t := 34) (p := 7) rfl ?_); refine ev_storerow rfl 34 _ _ rfl rfl w7.heap.size [.slice Ag0 y0.length cg0, .slice Ag1 y1.length cg1, .int .i64 y2, .slice Ag3 y3.length cg3, .slice Ag4 y4.length cg4, .slice Ag5 y5.length cg5] #[.slice none 0 0, .slice none 0 0, .int .i64 0, .slice none 0 0, .slice none 0 0, .slice none 0 0] 34 rfl rfl (blk_new w7 (.cells #[.slice none 0 0, .slice none 0 0, .int .i64 0, .slice none 0 0, .slice none 0 0, .slice none 0 0] 34)) (by kernel_rfl) (Nat.le_refl 6) rfl ?_))
 obtain ⟨w8, hw⟩ : ∃ W, W = puts (w7.alloc (.cells #[.slice none 0 0, .slice none 0 0, .int .i64 0, .slice none 0 0, .slice none 0 0, .slice none 0 0] 34)) w7.heap.size 0 [.slice Ag0 y0.length cg0, .slice Ag1 y1.length cg1, .int .i64 y2, .slice Ag3 y3.length cg3, .slice Ag4 y4.length cg4, .slice Ag5 y5.length cg5] := ⟨_, rfl⟩
 obtain ⟨hb, hn⟩ := box_new (zs := [.slice none 0 0, .slice none 0 0, .int .i64 0, .slice none 0 0, .slice none 0 0, .slice none 0 0]) hw rfl
 rw [← hw]
 clear hw
 replace BA := Aside0.mk (blk_below BA.out (hb))
 replace HB := Aside0.mk (below_step HB.out (hb))
 replace RW := Aside0.mk (Kd.M_below RW.out (hb))
 replace BW := Aside0.mk (blk_below BW.out (hb))
 replace RX := Aside0.mk (Kd.M_below RX.out (hb))
 replace BX := Aside0.mk (blk_below BX.out (hb))
 replace RG := Aside0.mk (Kd.M_below RG.out (hb))
 have BG := Aside0.mk hn
 have BGL := Aside0.mk (blk_lt hn)
 clear hb hn
 have S8 := Aside0.mk (Nat.le_refl w8.heap.size)
 go_wp2_with (first | ((with_reducible refine gate_dst (N := 32) rfl ?_); refine ev_loadrow rfl 34 _ rfl w7.heap.size #[.slice Ag0 y0.length cg0, .slice Ag1 y1.length cg1, .int .i64 y2, .slice Ag3 y3.length cg3, .slice Ag4 y4.length cg4, .slice Ag5 y5.length cg5] 34 _ rfl BG.out Try.underlying34 rfl (by kernel_rfl) ?_) | ((with_reducible refine gate_dst (N := 33) rfl ?_); refine ev_loadrow rfl 34 _ rfl w3.heap.size #[.slice Aw0 y0.length cw0, .slice Aw1 y1.length cw1, .int .i64 y2, .slice Aw3 y3.length cw3, .slice Aw4 y4.length cw4, .slice Aw5 y5.length cw5] 34 _ rfl BW.out Try.underlying34 rfl (by kernel_rfl) ?_))
 ((with_reducible refine (eqWork_o k y0 y1 y2 y3 y4 y5 y0 y1 y2 y3 y4 y5 _ (kWork.K_of_M RG.out) (kWork.K_of_M RW.out) HEQ.out).mono ?_); rintro e w9 ⟨rfl, hb⟩)
 replace BA := Aside0.mk (blk_below BA.out (hb))
 replace HB := Aside0.mk (below_step HB.out (hb))
 replace RW := Aside0.mk (Kd.M_below RW.out (hb))
 replace BW := Aside0.mk (blk_below BW.out (hb))
 replace RX := Aside0.mk (Kd.M_below RX.out (hb))
 replace BX := Aside0.mk (blk_below BX.out (hb))
 replace RG := Aside0.mk (Kd.M_below RG.out (hb))
 replace BG := Aside0.mk (blk_below BG.out (hb))
 replace S8 := Aside0.mk (Nat.le_trans S8.out (Below.size (hb)))
 clear hb
 go_upto_region 10 with (fail)
 replace BA := Aside0.mk (blk_below BA.out ((Below.refl w9.heap.size w9).drew))
 replace HB := Aside0.mk (below_step HB.out ((Below.refl w9.heap.size w9).drew))
 replace RW := Aside0.mk (Kd.M_below RW.out ((Below.refl w9.heap.size w9).drew))
 replace BW := Aside0.mk (blk_below BW.out ((Below.refl w9.heap.size w9).drew))
 replace RX := Aside0.mk (Kd.M_below RX.out ((Below.refl w9.heap.size w9).drew))
 replace BX := Aside0.mk (blk_below BX.out ((Below.refl w9.heap.size w9).drew))
 replace RG := Aside0.mk (Kd.M_below RG.out ((Below.refl w9.heap.size w9).drew))
 replace BG := Aside0.mk (blk_below BG.out ((Below.refl w9.heap.size w9).drew))
 replace S8 := Aside0.mk (Nat.le_trans S8.out (Below.size ((Below.refl w9.heap.size w9).drew)))
 refine seq_start give.ok10_0 (S := fun w' => w'.heap[w.heap.size]? = some (.cells (#[.slice Aa0 l0.length ca0, .slice Aa1 l1.length ca1, .int .i64 l2, .slice Aa3 l3.length ca3, .slice Aa4 l4.length ca4, .slice Aa5 l5.length ca5] : Array Value) 28 (0, 0)) ∧ w'.heap[w5.heap.size]? = some (.cells (#[.slice Ax0 m0.length cx0, .slice Ax1 m1.length cx1, .int .i64 m2, .slice Ax3 m3.length cx3, .slice Ax4 m4.length cx4, .slice Ax5 m5.length cx5] : Array Value) 34 (0, 0))) (by kernel_rfl) (fun _ _ _ _ h => h) ⟨BA.out, BX.out⟩ (fun hHeld => ?_)
 generalize w9.drew = wd at BA HB RW BW RX BX RG BG S8 hHeld ⊢
 refine seq_t (v := .agg #[.slice Ax0 m0.length cx0, .slice Ax1 m1.length cx1, .int .i64 m2, .slice Ax3 m3.length cx3, .slice Ax4 m4.length cx4, .slice Ax5 m5.length cx5]) (a' := ?a1_0) rfl rfl (Or.inl ⟨by rfl, ?hy0⟩) ?hp0 ?hk0
 case hy0 => (rintro w' ⟨s0, s1⟩; exact run_loadrow 34 _ rfl w5.heap.size #[.slice Ax0 m0.length cx0, .slice Ax1 m1.length cx1, .int .i64 m2, .slice Ax3 m3.length cx3, .slice Ax4 m4.length cx4, .slice Ax5 m5.length cx5] 34 _ rfl s1 Try.underlying34 rfl (by kernel_rfl))
 case hp0 => (show Act.put _ (some _) _ = _; simp only [Act.put, List.setIfInBounds_toArray, List.set_cons_zero, List.set_cons_succ, i64_w, i32_w]; try rfl)
 refine seq_t (v := .agg #[.slice Aa0 l0.length ca0, .slice Aa1 l1.length ca1, .int .i64 l2, .slice Aa3 l3.length ca3, .slice Aa4 l4.length ca4, .slice Aa5 l5.length ca5]) (a' := ?a1_1) rfl rfl (Or.inl ⟨by rfl, ?hy1⟩) ?hp1 ?hk1
 case hy1 => (rintro w' ⟨s0, s1⟩; exact run_loadrow 28 _ rfl w.heap.size #[.slice Aa0 l0.length ca0, .slice Aa1 l1.length ca1, .int .i64 l2, .slice Aa3 l3.length ca3, .slice Aa4 l4.length ca4, .slice Aa5 l5.length ca5] 28 _ rfl s0 Try.underlying28 rfl (by kernel_rfl))
 case hp1 => (show Act.put _ (some _) _ = _; simp only [Act.put, List.setIfInBounds_toArray, List.set_cons_zero, List.set_cons_succ, i64_w, i32_w]; try rfl)
 refine seq_call rfl rfl Try.func11 (by kernel_rfl) rfl #[.agg #[.slice Aa0 l0.length ca0, .slice Aa1 l1.length ca1, .int .i64 l2, .slice Aa3 l3.length ca3, .slice Aa4 l4.length ca4, .slice Aa5 l5.length ca5]] (by rfl) rfl (by (try simp only [List.map_toArray, List.map_cons, List.map_nil]); first | done | rfl) ?_
 with_reducible refine (toWork_o k l0 l1 l2 l3 l4 l5 m0 m1 m2 m3 m4 m5 _ (kWorkL.K_below HB.out HA.out) HTO.out).mono ?_
 rintro e w10 ⟨cs, rfl, M, hb⟩
 replace BA := Aside0.mk (blk_below BA.out (hb))
 replace HB := Aside0.mk (below_step HB.out (hb))
 replace RW := Aside0.mk (Kd.M_below RW.out (hb))
 replace BW := Aside0.mk (blk_below BW.out (hb))
 replace RX := Aside0.mk (Kd.M_below RX.out (hb))
 replace BX := Aside0.mk (blk_below BX.out (hb))
 replace RG := Aside0.mk (Kd.M_below RG.out (hb))
 replace BG := Aside0.mk (blk_below BG.out (hb))
 replace S8 := Aside0.mk (Nat.le_trans S8.out (Below.size (hb)))
 clear hb
 obtain ⟨At0, ct0, At1, ct1, At3, ct3, At4, ct4, At5, ct5, rfl, -⟩ := kWork_open (kWork.K_of_M M)
 have RT := Aside0.mk M
 clear M
 refine ⟨_, rfl, ⟨BA.out, BX.out⟩, (fun hHeld => ?_)⟩
 refine seq_norm (a' := ?_) ?_ ?_; rotate_left; (· show Act.put _ (some 43) _ = _; simp only [Act.put, List.setIfInBounds_toArray, List.set_cons_zero, List.set_cons_succ, i64_w, i32_w]; try rfl)
 refine seq_call rfl rfl Try.func13 (by kernel_rfl) rfl #[.agg #[.slice Ax0 m0.length cx0, .slice Ax1 m1.length cx1, .int .i64 m2, .slice Ax3 m3.length cx3, .slice Ax4 m4.length cx4, .slice Ax5 m5.length cx5], .agg #[.slice At0 m0.length ct0, .slice At1 m1.length ct1, .int .i64 m2, .slice At3 m3.length ct3, .slice At4 m4.length ct4, .slice At5 m5.length ct5]] (by rfl) rfl (by (try simp only [List.map_toArray, List.map_cons, List.map_nil]); first | done | rfl) ?_
 with_reducible refine (eqWork_o k m0 m1 m2 m3 m4 m5 m0 m1 m2 m3 m4 m5 _ (kWork.K_of_M RX.out) (kWork.K_of_M RT.out) HEX.out).mono ?_
 rintro e w11 ⟨rfl, hb⟩
 replace BA := Aside0.mk (blk_below BA.out (hb))
 replace HB := Aside0.mk (below_step HB.out (hb))
 replace RW := Aside0.mk (Kd.M_below RW.out (hb))
 replace BW := Aside0.mk (blk_below BW.out (hb))
 replace RX := Aside0.mk (Kd.M_below RX.out (hb))
 replace BX := Aside0.mk (blk_below BX.out (hb))
 replace RG := Aside0.mk (Kd.M_below RG.out (hb))
 replace BG := Aside0.mk (blk_below BG.out (hb))
 replace S8 := Aside0.mk (Nat.le_trans S8.out (Below.size (hb)))
 clear hb RT
 refine ⟨_, rfl, ⟨BA.out, BX.out⟩, (fun hHeld => ?_)⟩
 refine seq_norm (a' := ?_) ?_ ?_; rotate_left; (· show Act.put _ (some 44) _ = _; simp only [Act.put, List.setIfInBounds_toArray, List.set_cons_zero, List.set_cons_succ, i64_w, i32_w]; try rfl)
 (refine seq_p (v := ?_) (a' := ?_) rfl rfl (Or.inl ⟨by rfl, ?_⟩) ?_ ?_; rotate_left; (· intro w'; go_simp; with_reducible rfl); rotate_left; (· show Act.put _ (some _) _ = _; simp only [Act.put, List.setIfInBounds_toArray, List.set_cons_zero, List.set_cons_succ, i64_w, i32_w]; try rfl))
 refine seq_done ?_
 clear hHeld
 go_wp2_with (((with_reducible refine gate_dst (N := 46) rfl ?_); refine ev_loadrow rfl 34 _ rfl w5.heap.size #[.slice Ax0 m0.length cx0, .slice Ax1 m1.length cx1, .int .i64 m2, .slice Ax3 m3.length cx3, .slice Ax4 m4.length cx4, .slice Ax5 m5.length cx5] 34 _ rfl BX.out Try.underlying34 rfl (by kernel_rfl) ?_))
 ((with_reducible refine (markWork_o k m0 m1 m2 m3 m4 m5 x0 x1 x3 x4 x5 1 u1 u2 u3 mk _ w _ HB.out (fun k hk => by have h2 : k < w5.heap.size := hk.2; have := S2.out; have := S23.out; have := BWL.out; have := S45.out; have := BXL.out; have := S67.out; have := BGL.out; have := S8.out; omega) RX.out X1.out X2.out X3.out X4.out).mono ?_); rintro e w12 ⟨rfl, -, hB, hK⟩)
 clear RX
 replace BA := Aside0.mk (blk_kept BA.out hK (fun h => by have h1 := h.1; have h2 := h.2; have := S2.out; have := S23.out; have := BWL.out; have := S45.out; have := BXL.out; have := S67.out; have := BGL.out; have := S8.out; omega))
 replace HB := Aside0.mk (hB)
 replace RW := Aside0.mk (Kd.M_kept RW.out hK (fun k hk h => by have h3 : k < w3.heap.size := hk.2; have h1 := h.1; have := S2.out; have := S23.out; have := BWL.out; have := S45.out; have := BXL.out; have := S67.out; have := BGL.out; have := S8.out; omega))
 replace BW := Aside0.mk (blk_kept BW.out hK (fun h => by have h1 := h.1; have h2 := h.2; have := S2.out; have := S23.out; have := BWL.out; have := S45.out; have := BXL.out; have := S67.out; have := BGL.out; have := S8.out; omega))
 replace BX := Aside0.mk (blk_kept BX.out hK (fun h => by have h1 := h.1; have h2 := h.2; have := S2.out; have := S23.out; have := BWL.out; have := S45.out; have := BXL.out; have := S67.out; have := BGL.out; have := S8.out; omega))
 replace RG := Aside0.mk (Kd.M_kept RG.out hK (fun k hk h => by have h3 : w6.heap.size ≤ k := hk.1; have h1 := h.2; have := S2.out; have := S23.out; have := BWL.out; have := S45.out; have := BXL.out; have := S67.out; have := BGL.out; have := S8.out; omega))
 replace BG := Aside0.mk (blk_kept BG.out hK (fun h => by have h1 := h.1; have h2 := h.2; have := S2.out; have := S23.out; have := BWL.out; have := S45.out; have := BXL.out; have := S67.out; have := BGL.out; have := S8.out; omega))
 replace S8 := Aside0.mk (Nat.le_trans S8.out hK.1)
 clear hB hK
 have hmk : decide (mk < 0) = false := decide_eq_false (by have := HMK.out; omega)
 have hg0 : w12.cell? ⟨w7.heap.size, 0, none⟩ = some (.slice Ag0 y0.length cg0) := (blk_cell BG.out 0).trans rfl
 have hw0 : w12.cell? ⟨w3.heap.size, 0, none⟩ = some (.slice Aw0 y0.length cw0) := (blk_cell BW.out 0).trans rfl
 have hg1 : w12.cell? ⟨w7.heap.size, 1, none⟩ = some (.slice Ag1 y1.length cg1) := (blk_cell BG.out 1).trans rfl
 have hw1 : w12.cell? ⟨w3.heap.size, 1, none⟩ = some (.slice Aw1 y1.length cw1) := (blk_cell BW.out 1).trans rfl
 have hg2 : w12.cell? ⟨w7.heap.size, 2, none⟩ = some (.int .i64 y2) := (blk_cell BG.out 2).trans rfl
 have hw2 : w12.cell? ⟨w3.heap.size, 2, none⟩ = some (.int .i64 y2) := (blk_cell BW.out 2).trans rfl
 have hg3 : w12.cell? ⟨w7.heap.size, 3, none⟩ = some (.slice Ag3 y3.length cg3) := (blk_cell BG.out 3).trans rfl
 have hw3 : w12.cell? ⟨w3.heap.size, 3, none⟩ = some (.slice Aw3 y3.length cw3) := (blk_cell BW.out 3).trans rfl
 have hg4 : w12.cell? ⟨w7.heap.size, 4, none⟩ = some (.slice Ag4 y4.length cg4) := (blk_cell BG.out 4).trans rfl
 have hw4 : w12.cell? ⟨w3.heap.size, 4, none⟩ = some (.slice Aw4 y4.length cw4) := (blk_cell BW.out 4).trans rfl
 have hg5 : w12.cell? ⟨w7.heap.size, 5, none⟩ = some (.slice Ag5 y5.length cg5) := (blk_cell BG.out 5).trans rfl
 have hw5 : w12.cell? ⟨w3.heap.size, 5, none⟩ = some (.slice Aw5 y5.length cw5) := (blk_cell BW.out 5).trans rfl
 go_wp2_with fail
 clear hg0 hw0 hg1 hw1 hg2 hw2 hg3 hw3 hg4 hw4 hg5 hw5
 ((with_reducible refine (eqWork_o k y0 y1 y2 y3 y4 y5 y0 y1 y2 y3 y4 y5 _ (kWork.K_of_M RG.out) (kWork.K_of_M RW.out) HEQ.out).mono ?_); rintro e w13 ⟨rfl, hb⟩)
 replace BA := Aside0.mk (blk_below BA.out (hb))
 replace HB := Aside0.mk (below_step HB.out (hb))
 replace RW := Aside0.mk (Kd.M_below RW.out (hb))
 replace BW := Aside0.mk (blk_below BW.out (hb))
 replace BX := Aside0.mk (blk_below BX.out (hb))
 replace RG := Aside0.mk (Kd.M_below RG.out (hb))
 replace BG := Aside0.mk (blk_below BG.out (hb))
 replace S8 := Aside0.mk (Nat.le_trans S8.out (Below.size (hb)))
 clear hb
 clear hmk
 go_wp2_with (((with_reducible refine gate_dst (N := 62) rfl ?_); refine ev_loadrow rfl 34 _ rfl w7.heap.size #[.slice Ag0 y0.length cg0, .slice Ag1 y1.length cg1, .int .i64 y2, .slice Ag3 y3.length cg3, .slice Ag4 y4.length cg4, .slice Ag5 y5.length cg5] 34 _ rfl BG.out Try.underlying34 rfl (by kernel_rfl) ?_))
 ((with_reducible refine (markWork_o k y0 y1 y2 y3 y4 y5 z0 z1 z3 z4 z5 1 v1 v2 v3 mg _ w _ HB.out (fun k hk => by have h2 : k < w7.heap.size := hk.2; have := S2.out; have := S23.out; have := BWL.out; have := S45.out; have := BXL.out; have := S67.out; have := BGL.out; have := S8.out; omega) RG.out Z1.out Z2.out Z3.out Z4.out).mono ?_); rintro e w14 ⟨rfl, M, hB, hK⟩)
 clear RG
 replace BA := Aside0.mk (blk_kept BA.out hK (fun h => by have h1 := h.1; have h2 := h.2; have := S2.out; have := S23.out; have := BWL.out; have := S45.out; have := BXL.out; have := S67.out; have := BGL.out; have := S8.out; omega))
 replace HB := Aside0.mk (hB)
 replace RW := Aside0.mk (Kd.M_kept RW.out hK (fun k hk h => by have h3 : k < w3.heap.size := hk.2; have h1 := h.1; have := S2.out; have := S23.out; have := BWL.out; have := S45.out; have := BXL.out; have := S67.out; have := BGL.out; have := S8.out; omega))
 replace BW := Aside0.mk (blk_kept BW.out hK (fun h => by have h1 := h.1; have h2 := h.2; have := S2.out; have := S23.out; have := BWL.out; have := S45.out; have := BXL.out; have := S67.out; have := BGL.out; have := S8.out; omega))
 replace BX := Aside0.mk (blk_kept BX.out hK (fun h => by have h1 := h.1; have h2 := h.2; have := S2.out; have := S23.out; have := BWL.out; have := S45.out; have := BXL.out; have := S67.out; have := BGL.out; have := S8.out; omega))
 replace BG := Aside0.mk (blk_kept BG.out hK (fun h => by have h1 := h.1; have h2 := h.2; have := S2.out; have := S23.out; have := BWL.out; have := S45.out; have := BXL.out; have := S67.out; have := BGL.out; have := S8.out; omega))
 replace S8 := Aside0.mk (Nat.le_trans S8.out hK.1)
 have RG := Aside0.mk M
 clear M hB hK
 go_wp2_with (((with_reducible refine gate_dst (N := 65) rfl ?_); refine ev_loadrow rfl 34 _ rfl w7.heap.size #[.slice Ag0 y0.length cg0, .slice Ag1 y1.length cg1, .int .i64 y2, .slice Ag3 y3.length cg3, .slice Ag4 y4.length cg4, .slice Ag5 y5.length cg5] 34 _ rfl BG.out Try.underlying34 rfl (by kernel_rfl) ?_))
 ((with_reducible refine (heldWork_o k z0 z1 y2 z3 z4 z5 1 mg _ (kWork.K_of_M RG.out) HHD.out).mono ?_); rintro e w15 ⟨rfl, hb⟩)
 replace BA := Aside0.mk (blk_below BA.out (hb))
 replace HB := Aside0.mk (below_step HB.out (hb))
 replace RW := Aside0.mk (Kd.M_below RW.out (hb))
 replace BW := Aside0.mk (blk_below BW.out (hb))
 replace BX := Aside0.mk (blk_below BX.out (hb))
 replace BG := Aside0.mk (blk_below BG.out (hb))
 replace S8 := Aside0.mk (Nat.le_trans S8.out (Below.size (hb)))
 replace RG := Aside0.mk (Kd.M_below RG.out (hb))
 clear hb
 have hmg : decide (mg < 0) = false := decide_eq_false (by have := HMG.out; omega)
 go_wp2_with (((with_reducible refine gate_dst (N := 74) rfl ?_); refine ev_loadrow rfl 28 _ rfl w.heap.size #[.slice Aa0 l0.length ca0, .slice Aa1 l1.length ca1, .int .i64 l2, .slice Aa3 l3.length ca3, .slice Aa4 l4.length ca4, .slice Aa5 l5.length ca5] 28 _ rfl BA.out Try.underlying28 rfl (by kernel_rfl) ?_))
 ((with_reducible refine (toWork_o k l0 l1 l2 l3 l4 l5 m0 m1 m2 m3 m4 m5 _ (kWorkL.K_below HB.out HA.out) HTO.out).mono ?_); rintro e w16 ⟨cs, rfl, M, hb⟩)
 have SZ := Aside0.mk hb.size
 replace BA := Aside0.mk (blk_below BA.out (hb))
 replace HB := Aside0.mk (below_step HB.out (hb))
 replace RW := Aside0.mk (Kd.M_below RW.out (hb))
 replace BW := Aside0.mk (blk_below BW.out (hb))
 replace BX := Aside0.mk (blk_below BX.out (hb))
 replace BG := Aside0.mk (blk_below BG.out (hb))
 replace S8 := Aside0.mk (Nat.le_trans S8.out (Below.size (hb)))
 replace RG := Aside0.mk (Kd.M_below RG.out (hb))
 clear hb
 obtain ⟨Ar0, cr0, Ar1, cr1, Ar3, cr3, Ar4, cr4, Ar5, cr5, rfl, -⟩ := kWork_open (kWork.K_of_M M)
 have RR := Aside0.mk M
 clear M SZ
 go_wp2_with fail
 ((with_reducible refine (implGive_o m0 m1 m2 m3 m4 m5 y0 y1 y2 y3 y4 y5 p _ (kWork.K_of_M RR.out) HIM.out).mono ?_); rintro e w17 ⟨cs, rfl, M, hb⟩)
 have SZ := Aside0.mk hb.size
 replace BA := Aside0.mk (blk_below BA.out (hb))
 replace HB := Aside0.mk (below_step HB.out (hb))
 replace RW := Aside0.mk (Kd.M_below RW.out (hb))
 replace BW := Aside0.mk (blk_below BW.out (hb))
 replace BX := Aside0.mk (blk_below BX.out (hb))
 replace BG := Aside0.mk (blk_below BG.out (hb))
 replace S8 := Aside0.mk (Nat.le_trans S8.out (Below.size (hb)))
 replace RG := Aside0.mk (Kd.M_below RG.out (hb))
 clear hb
 clear RR SZ
 obtain ⟨Ah0, ch0, Ah1, ch1, Ah3, ch3, Ah4, ch4, Ah5, ch5, rfl, -⟩ := kWork_open (kWork.K_of_M M)
 have RH := Aside0.mk M
 clear M
 go_upto_region 25 with (((with_reducible refine gate_store (t := 34) (p := 12) rfl ?_); refine ev_storerow rfl 34 _ _ rfl rfl w17.heap.size [.slice Ah0 y0.length ch0, .slice Ah1 y1.length ch1, .int .i64 y2, .slice Ah3 y3.length ch3, .slice Ah4 y4.length ch4, .slice Ah5 y5.length ch5] #[.slice none 0 0, .slice none 0 0, .int .i64 0, .slice none 0 0, .slice none 0 0, .slice none 0 0] 34 rfl rfl (blk_new w17 (.cells #[.slice none 0 0, .slice none 0 0, .int .i64 0, .slice none 0 0, .slice none 0 0, .slice none 0 0] 34)) (by kernel_rfl) (Nat.le_refl 6) rfl ?_))
 obtain ⟨w18, hw⟩ : ∃ W, W = puts (w17.alloc (.cells #[.slice none 0 0, .slice none 0 0, .int .i64 0, .slice none 0 0, .slice none 0 0, .slice none 0 0] 34)) w17.heap.size 0 [.slice Ah0 y0.length ch0, .slice Ah1 y1.length ch1, .int .i64 y2, .slice Ah3 y3.length ch3, .slice Ah4 y4.length ch4, .slice Ah5 y5.length ch5] := ⟨_, rfl⟩
 obtain ⟨hb, hn⟩ := box_new (zs := [.slice none 0 0, .slice none 0 0, .int .i64 0, .slice none 0 0, .slice none 0 0, .slice none 0 0]) hw rfl
 rw [← hw]
 clear hw
 replace BA := Aside0.mk (blk_below BA.out (hb))
 replace HB := Aside0.mk (below_step HB.out (hb))
 replace RW := Aside0.mk (Kd.M_below RW.out (hb))
 replace BW := Aside0.mk (blk_below BW.out (hb))
 replace BX := Aside0.mk (blk_below BX.out (hb))
 replace BG := Aside0.mk (blk_below BG.out (hb))
 replace S8 := Aside0.mk (Nat.le_trans S8.out (Below.size (hb)))
 replace RG := Aside0.mk (Kd.M_below RG.out (hb))
 replace RH := Aside0.mk (Kd.M_below RH.out (hb))
 have BH := Aside0.mk hn
 have BHL := Aside0.mk (blk_lt hn)
 clear hb hn
 go_wp2_with (first | ((with_reducible refine gate_dst (N := 79) rfl ?_); refine ev_loadrow rfl 34 _ rfl w17.heap.size #[.slice Ah0 y0.length ch0, .slice Ah1 y1.length ch1, .int .i64 y2, .slice Ah3 y3.length ch3, .slice Ah4 y4.length ch4, .slice Ah5 y5.length ch5] 34 _ rfl BH.out Try.underlying34 rfl (by kernel_rfl) ?_) | ((with_reducible refine gate_dst (N := 80) rfl ?_); refine ev_loadrow rfl 34 _ rfl w3.heap.size #[.slice Aw0 y0.length cw0, .slice Aw1 y1.length cw1, .int .i64 y2, .slice Aw3 y3.length cw3, .slice Aw4 y4.length cw4, .slice Aw5 y5.length cw5] 34 _ rfl BW.out Try.underlying34 rfl (by kernel_rfl) ?_))
 ((with_reducible refine (eqWork_o k y0 y1 y2 y3 y4 y5 y0 y1 y2 y3 y4 y5 _ (kWork.K_of_M RH.out) (kWork.K_of_M RW.out) HEQ.out).mono ?_); rintro e w19 ⟨rfl, hb⟩)
 replace BA := Aside0.mk (blk_below BA.out (hb))
 replace HB := Aside0.mk (below_step HB.out (hb))
 replace RW := Aside0.mk (Kd.M_below RW.out (hb))
 replace BW := Aside0.mk (blk_below BW.out (hb))
 replace BX := Aside0.mk (blk_below BX.out (hb))
 replace BG := Aside0.mk (blk_below BG.out (hb))
 replace S8 := Aside0.mk (Nat.le_trans S8.out (Below.size (hb)))
 replace RG := Aside0.mk (Kd.M_below RG.out (hb))
 replace RH := Aside0.mk (Kd.M_below RH.out (hb))
 replace BH := Aside0.mk (blk_below BH.out (hb))
 clear hb
 go_wp2_with (((with_reducible refine gate_dst (N := 88) rfl ?_); refine ev_loadrow rfl 34 _ rfl w7.heap.size #[.slice Ag0 y0.length cg0, .slice Ag1 y1.length cg1, .int .i64 y2, .slice Ag3 y3.length cg3, .slice Ag4 y4.length cg4, .slice Ag5 y5.length cg5] 34 _ rfl BG.out Try.underlying34 rfl (by kernel_rfl) ?_))
 ((with_reducible refine (heldWork_o k z0 z1 y2 z3 z4 z5 1 mg _ (kWork.K_of_M RG.out) HHD.out).mono ?_); rintro e w20 ⟨rfl, hb⟩)
 replace BA := Aside0.mk (blk_below BA.out (hb))
 replace HB := Aside0.mk (below_step HB.out (hb))
 replace RW := Aside0.mk (Kd.M_below RW.out (hb))
 replace BW := Aside0.mk (blk_below BW.out (hb))
 replace BX := Aside0.mk (blk_below BX.out (hb))
 replace BG := Aside0.mk (blk_below BG.out (hb))
 replace S8 := Aside0.mk (Nat.le_trans S8.out (Below.size (hb)))
 replace RG := Aside0.mk (Kd.M_below RG.out (hb))
 replace RH := Aside0.mk (Kd.M_below RH.out (hb))
 replace BH := Aside0.mk (blk_below BH.out (hb))
 clear hb
 go_wp2
 go_ret
 exact ⟨rfl, HB.out⟩
theorem l08_id (l0 : List ByteArray) (l1 : List S135) (l2 : Int) (l3 l4 l5 : List Int) (h0 : l0.length ≤ 2000000) (h1 : l1.length ≤ 2000000) (h3 : l3.length ≤ 2000000) (h4 : l4.length ≤ 2000000) (h5 : l5.length ≤ 2000000) : spec_l08Copy.f l0 l1 l2 l3 l4 l5 = some (l0, l1, l2, l3, l4, l5) := by
 unfold spec_l08Copy.f spec_l03Copy.f
 simp only [Option.bind_some, List.nil_append, List.length_nil]
 rw [if_pos (by omega), if_pos (by omega), Option.bind_some, if_pos (by omega), if_pos (by omega), if_pos (by omega)]
theorem clone_id (l0 : List ByteArray) (l1 : List S135) (l2 : Int) (l3 l4 l5 : List Int) (h0 : l0.length ≤ 2000000) (h1 : l1.length ≤ 2000000) (h3 : l3.length ≤ 2000000) (h4 : l4.length ≤ 2000000) (h5 : l5.length ≤ 2000000) : impl_cloneWork.f l0 l1 l2 l3 l4 l5 = some (l0, l1, l2, l3, l4, l5) := by
 unfold impl_cloneWork.f impl_cloneDisk.f slices_Clone_string_string.f impl_Put.f
 unfold slices_Clone_int_int.f
 rw [if_pos (by omega), if_pos (by omega), if_pos (by omega), if_pos (by omega), if_pos (by omega)]
 rfl
theorem give_both (l0 : List ByteArray) (l1 : List S135) (l2 : Int) (l3 l4 l5 : List Int) (h0 : l0.length ≤ 1048576) (h1 : l1.length ≤ 1048576) (h3 : l3.length ≤ 1048576) (h4 : l4.length ≤ 1048576) (h5 : l5.length ≤ 1048576) :
  ∃ y0 y1 y2 y3 y4 y5 p, spec_GivePage.f l0 l1 l2 l3 l4 l5 = some (y0, y1, y2, y3, y4, y5, p) ∧ impl_GivePage.f l0 l1 l2 l3 l4 l5 = some (y0, y1, y2, y3, y4, y5, p) ∧ y0.length ≤ 2000000 ∧ y1.length ≤ 2000000 ∧ y3.length ≤ 2000000 ∧ y4.length ≤ 2000000 ∧ y5.length ≤ 2000000 := by
 unfold spec_GivePage.f impl_GivePage.f
 rw [l08_id l0 l1 l2 l3 l4 l5 (by omega) (by omega) (by omega) (by omega) (by omega), clone_id l0 l1 l2 l3 l4 l5 (by omega) (by omega) (by omega) (by omega) (by omega)]
 simp only [Option.bind_some]
 by_cases hu : (l3.length : Int) > 0
 ·have hd : (l3.drop 1).length ≤ 1048576 := by rw [List.length_drop]; omega
  rw [if_pos hu, if_pos hu, if_pos (by omega), if_pos (by simp only [List.length_nil]; omega), if_pos (by omega), if_pos (by omega), if_pos (by omega), if_pos (by omega), if_pos (by omega), List.nil_append]
  refine ⟨_, _, _, _, _, _, _, rfl, rfl, by omega, by omega, by omega, by omega, ?_⟩
  rw [List.length_append]
  simp only [List.length_singleton]
  omega
 ·rw [if_neg hu, if_neg hu]
  by_cases hn : l2 ≥ (l0.length : Int)
  ·rw [if_pos hn]
   exact ⟨_, _, _, _, _, _, _, rfl, rfl, by omega, by omega, by omega, by omega, by omega⟩
  ·rw [if_neg hn, if_pos (by omega)]
   refine ⟨_, _, _, _, _, _, _, rfl, rfl, by omega, by omega, by omega, by omega, ?_⟩
   rw [List.length_append]
   simp only [List.length_singleton]
   omega
theorem mhW_ev (p : List ByteArray) (q : List S135) (n : Int) (u g f : List Int) (hp : p.length ≤ 2000000) (hq : q.length ≤ 2000000) (hu : u.length ≤ 2000000) (hg : g.length ≤ 2000000) (hf : f.length ≤ 2000000) :
  ∃ p' q' u' g' f' a1 a2 a3 a4, Ev (fun k => laws_markDisk.f k p q 1) (a1, p', q') ∧ Ev (fun k => laws_markIntS.f k u a1) (a2, u') ∧ Ev (fun k => laws_markIntS.f k g a2) (a3, g') ∧ Ev (fun k => laws_markIntS.f k f a3) (a4, f') ∧ ¬ a4 < 0 ∧ Ev (fun k => laws_heldWork.f k p' q' n u' g' f' 1) a4 := by
 obtain ⟨p', q', e1, d1⟩ := mhD_ev p q 1 (by omega) (by omega) hp hq
 obtain ⟨u', e2, d2⟩ := mhI_ev u (1 + p.length + 2 * q.length) (by omega) (by omega) hu
 obtain ⟨g', e3, d3⟩ := mhI_ev g (1 + p.length + 2 * q.length + u.length) (by omega) (by omega) hg
 obtain ⟨f', e4, d4⟩ := mhI_ev f (1 + p.length + 2 * q.length + u.length + g.length) (by omega) (by omega) hf
 refine ⟨p', q', u', g', f', _, _, _, _, e1, e2, e3, e4, by omega, ?_⟩
 unfold laws_heldWork.f
 exact hld d1 (by omega) (hld d2 (by omega) (hld d3 (by omega) (hld d4 (by omega) (Ev.now _))))
theorem give_law (l0 : List ByteArray) (l1 : List S140) (l2 : Int) (l3 l4 l5 : List Int) (hd : INd l0 l1) (h3 : INi l3) (h4 : INi l4) (h5 : INi l5) (Aa0 : Option Addr) (ca0 : Nat) (Aa1 : Option Addr) (ca1 : Nat) (Aa3 : Option Addr) (ca3 : Nat) (Aa4 : Option Addr) (ca4 : Nat) (Aa5 : Option Addr) (ca5 : Nat) (w : World) (ha : kWorkL.K w (l0, l1, l2, l3, l4, l5) [.slice Aa0 l0.length ca0, .slice Aa1 l1.length ca1, .int .i64 l2, .slice Aa3 l3.length ca3, .slice Aa4 l4.length ca4, .slice Aa5 l5.length ca5]) :
  Calls Try.prog 3 #[.agg #[.slice Aa0 l0.length ca0, .slice Aa1 l1.length ca1, .int .i64 l2, .slice Aa3 l3.length ca3, .slice Aa4 l4.length ca4, .slice Aa5 l5.length ca5]] w fun e w' => e = .returned (.bool true) ∧ Below w.heap.size w w' := by
 obtain ⟨r, ⟨K0, er⟩, hr⟩ := szWx l0 l1 l2 l3 l4 l5 hd h3 h4 h5 1048576 (by omega) (by omega)
 rcases hr with hr | ⟨hr, _, hs, hu, hg, hf⟩
 ·exact give_small K0 l0 l1 l2 l3 l4 l5 Aa0 ca0 Aa1 ca1 Aa3 ca3 Aa4 ca4 Aa5 ca5 r w ha (er K0 (Nat.le_refl _)) hr
 ·obtain ⟨K1, hto⟩ := toW_ev l0 l1 l2 l3 l4 l5 hs hu hg hf
  have hc : (l1.map conv).length ≤ 1048576 := by rw [List.length_map]; exact hs.2.1
  obtain ⟨y0, y1, y2, y3, y4, y5, p, hsp, him, b0, b1, b3, b4, b5⟩ := give_both l0 (l1.map conv) l2 l3 l4 l5 hs.1.1 hc hu hg hf
  obtain ⟨K2, heq⟩ := eqW_ev y0 y1 y2 y3 y4 y5 b0 b1 b3 b4 b5
  obtain ⟨K3, hex⟩ := eqW_ev l0 (l1.map conv) l2 l3 l4 l5 (by have := hs.1.1; omega) (by omega) (by omega) (by omega) (by omega)
  obtain ⟨x0, x1, x3, x4, x5, u1, u2, u3, mk, ⟨K4, f1⟩, ⟨K5, f2⟩, ⟨K6, f3⟩, ⟨K7, f4⟩, hmk, _⟩ := mhW_ev l0 (l1.map conv) l2 l3 l4 l5 (by have := hs.1.1; omega) (by omega) (by omega) (by omega) (by omega)
  obtain ⟨z0, z1, z3, z4, z5, v1, v2, v3, mg, ⟨J1, g1⟩, ⟨J2, g2⟩, ⟨J3, g3⟩, ⟨J4, g4⟩, hmg, ⟨J5, hhd⟩⟩ := mhW_ev y0 y1 y2 y3 y4 y5 b0 b1 b3 b4 b5
  obtain ⟨K, hK⟩ : ∃ K, K = K0 + K1 + K2 + K3 + K4 + K5 + K6 + K7 + J1 + J2 + J3 + J4 + J5 := ⟨_, rfl⟩
  exact give_great K l0 l1 l2 l3 l4 l5 Aa0 ca0 Aa1 ca1 Aa3 ca3 Aa4 ca4 Aa5 ca5 r l0 (l1.map conv) l2 l3 l4 l5 y0 y1 y2 y3 y4 y5 p x0 x1 x3 x4 x5 z0 z1 z3 z4 z5 u1 u2 u3 mk v1 v2 v3 mg w ha (by omega) (er K (by omega)) (hto K (by omega)) hsp him (heq K (by omega)) (hex K (by omega)) (f1 K (by omega)) (f2 K (by omega)) (f3 K (by omega)) (f4 K (by omega)) hmk (g1 K (by omega)) (g2 K (by omega)) (g3 K (by omega)) (g4 K (by omega)) hmg (hhd K (by omega))
end Go.Proofs.Ytonhdiemjgdcnaa.PFnExactGivePage
namespace Go.Proofs.Ytonhdiemjgdcnaa.Head
set_option maxRecDepth 100000
def w1 : List Char := [104, 97, 114, 110, 101, 115, 115].map Char.ofNat
def w2 : List Char := [102, 102, 99, 99, 97, 102, 100, 57, 54, 99, 57, 54, 100, 98, 54, 53, 56, 98, 100, 57, 100, 102, 97, 56, 49, 98, 54, 52, 48, 99, 56, 57, 52, 97, 101, 102, 52, 49, 97, 98, 49, 50, 52, 102, 49, 51, 48, 52, 52, 99, 53, 53, 98, 101, 54, 56, 56, 49, 55, 53, 55, 54, 55, 56].map Char.ofNat
def w3 : List Char := [99, 117, 116].map Char.ofNat
def w4 : List Char := [97, 116, 32, 108, 111, 111, 112, 46, 101, 120, 97, 109, 112, 108, 101, 47, 103, 48, 48, 50, 52, 48, 47, 108, 97, 119, 115, 46, 70, 110, 69, 120, 97, 99, 116, 71, 105, 118, 101, 80, 97, 103, 101, 32, 108, 111, 111, 112, 46, 101, 120, 97, 109, 112, 108, 101, 47, 103, 48, 48, 50, 52, 48, 47, 108, 97, 119, 115, 46, 70, 110, 69, 120, 97, 99, 116, 80, 117, 116, 78, 111, 100, 101, 32, 108, 111, 111, 112, 46, 101, 120, 97, 109, 112, 108, 101, 47, 103, 48, 48, 50, 52, 48, 47, 108, 97, 119, 115, 46, 70, 110, 69, 120, 97, 99, 116, 79, 112, 101, 110, 32, 108, 111, 111, 112, 46, 101, 120, 97, 109, 112, 108, 101, 47, 103, 48, 48, 50, 52, 48, 47, 108, 97, 119, 115, 46, 70, 110, 69, 120, 97, 99, 116, 69, 110, 100, 82, 101, 97, 100, 32, 108, 111, 111, 112, 46, 101, 120, 97, 109, 112, 108, 101, 47, 103, 48, 48, 50, 52, 48, 47, 108, 97, 119, 115, 46, 70, 110, 69, 120, 97, 99, 116, 83, 116, 111, 112, 87, 114, 105, 116, 101, 32, 108, 111, 111, 112, 46, 101, 120, 97, 109, 112, 108, 101, 47, 103, 48, 48, 50, 52, 48, 47, 108, 97, 119, 115, 46, 70, 110, 69, 120, 97, 99, 116, 78, 101, 120, 116, 77, 101, 116, 97].map Char.ofNat
def blank : Char := Char.ofNat 32
theorem cut_at (a r : List Char) (h : a.all (· != blank) = true) : wordsSigns (a ++ blank :: r) = a :: wordsSigns r := by
 induction a with
 | nil => rfl
 | cons c a ih =>
  simp only [List.all_cons, Bool.and_eq_true, bne_iff_ne] at h
  have e := ih h.2
  have hc : ∀ s, wordsSigns (c :: s) = match wordsSigns s with | w :: ws => (c :: w) :: ws | [] => [[c]] := by
   intro s
   conv => lhs; unfold wordsSigns
   split
   ·rename_i h0; cases h0
   ·rename_i h0
    injection h0 with h1 h2
    exact absurd h1 h.1
   ·rename_i h0 _ h1
    injection h1 with h2 h3
    subst h2
    subst h3
    rfl
  show wordsSigns (c :: (a ++ blank :: r)) = _
  rw [hc, e]
theorem io : Try.prog.initOrder = String.ofList (w1 ++ blank :: (w2 ++ blank :: (w3 ++ blank :: w4))) := by kernel_rfl
theorem words : wordsSigns Try.prog.initOrder.toList = w1 :: w2 :: w3 :: wordsSigns w4 := by
 rw [io, String.toList_ofList, cut_at _ _ (by kernel_rfl), cut_at _ _ (by kernel_rfl), cut_at _ _ (by kernel_rfl)]
theorem m0 : ((w1 == "harness".toList || w1 == "ownmain".toList) && isSumSigns w2) = true := by kernel_rfl
theorem m1 : (w3 == "gc".toList) = false := by kernel_rfl
theorem m2 : (w3 == "spec".toList) = false := by kernel_rfl
theorem m3 : (w3 == "cut".toList) = true := by kernel_rfl
theorem m4 : (w3 == "carried".toList) = false := by kernel_rfl
theorem m5 (R : List (List Char)) : ((w3 :: R).head? == some "cut".toList) = true := by kernel_rfl
theorem m5c (R : List (List Char)) : ((w3 :: R).head? == some "carried".toList) = false := by kernel_rfl
theorem m6 (R : List (List Char)) : stripLifts liftWords (w3 :: R) = ([], w3 :: R) := by kernel_rfl
theorem m7 : Try.prog.laysLater = false := by kernel_rfl
theorem m8 : Try.prog.bearsReflect = false := by kernel_rfl
theorem m9 : Try.prog.doorFits [] = true := by kernel_rfl
theorem behind (R : List (List Char)) : behindMainWord (w1 :: w2 :: R) = R := by
 show (if ((w1 == "harness".toList || w1 == "ownmain".toList) && isSumSigns w2) = true then R else w1 :: w2 :: R) = R
 rw [if_pos m0]
theorem beh : ∃ R, behindMainWord (wordsSigns Try.prog.initOrder.toList) = w3 :: R := ⟨wordsSigns w4, by rw [words, behind]⟩
theorem lifts_of (P : Program) (R : List (List Char)) (h : behindMainWord (wordsSigns P.initOrder.toList) = w3 :: R) : (false == P.liftsFinal) = true := by
 unfold Program.liftsFinal Program.headLifts
 rw [h]
 simp only [m5, m5c, m6]
 rfl
theorem may_of (P : Program) (R : List (List Char)) (h : behindMainWord (wordsSigns P.initOrder.toList) = w3 :: R) (h7 : P.laysLater = false) (h8 : P.bearsReflect = false) (h9 : P.doorFits [] = true) : P.mayEnter = true := by
 unfold Program.mayEnter
 rw [h]
 simp only [m1, m2, m4, m5, m6, h7, h8, h9]
 rfl
theorem made_of (P : Program) (R : List (List Char)) (h : behindMainWord (wordsSigns P.initOrder.toList) = w3 :: R) : (P.make == some Make.cut) = true := by
 unfold Program.make Program.headLifts
 rw [h]
 simp only [m1, m2, m3]
 rfl
theorem lifts : (false == Try.prog.liftsFinal) = true := by
 obtain ⟨R, h⟩ := beh
 exact lifts_of _ R h
theorem may : Try.prog.mayEnter = true := by
 obtain ⟨R, h⟩ := beh
 exact may_of _ R h m7 m8 m9
theorem made : (Try.prog.make == some Make.cut) = true := by
 obtain ⟨R, h⟩ := beh
 exact made_of _ R h
theorem laid : laidOutB Try.prog = true := by kernel_rfl
theorem maps : mapsRowed Try.prog = true := by kernel_rfl
theorem heard : Try.prog.stopsHeard = true := by kernel_rfl
theorem plain : (true == Try.prog.plainKeys) = true := by kernel_rfl
end Go.Proofs.Ytonhdiemjgdcnaa.Head
namespace Go.Proofs.Ytonhdiemjgdcnaa.Opened
open Go.RowKit Go.Deep Go.WideShapes Go.Proofs.YtonhdiemjgdcnaaW.PrintWords
def Opens {α : Type} (P : Program) (t : TypeId) (d : Kd α) (ok : α → Prop) : Prop :=
 ∀ (H : Type) (enc : TypeId × Value → H) (w : World) (base : Nat) (spare : Nat → Bool) (held : Bool) (fuel : Nat) (cs : List Value) (x : DataW H × List MemPlace),
  DataW.trod enc P w base spare held fuel t cs = some x → ∃ y : α, d.K w y cs ∧ ok y
variable {P : Program}
theorem opens_int {t : TypeId} {k : IntKind} (hu : P.underlying t = some (.int k)) : Opens P t (Kd.int k) (fun _ => True) := by
 intro H enc w base spare held fuel cs x h
 obtain ⟨n, rfl, _, _⟩ := DataW.trod_int hu h
 exact ⟨n, rfl, trivial⟩
theorem opens_string {t : TypeId} (hu : P.underlying t = some .string) : Opens P t Kd.string (fun s => s.size ≤ 9223372036854775807) := by
 intro H enc w base spare held fuel cs x h
 obtain ⟨n, rfl, _, hs⟩ := DataW.trod_string hu h
 exact ⟨n, rfl, by unfold maxLen at hs; omega⟩
theorem list_of {α : Type} (n : Nat) (Q : Nat → α → Prop) (h : ∀ i, i < n → ∃ y, Q i y) : ∃ ys : List α, ys.length = n ∧ ∀ j p, ys[j]? = some p → Q j p := by
 induction n with
 | zero => exact ⟨[], rfl, fun j p h => by simp at h⟩
 | succ n ih =>
  obtain ⟨ys, hl, hy⟩ := ih (fun i hi => h i (by omega))
  obtain ⟨y, hq⟩ := h n (by omega)
  refine ⟨ys ++ [y], by simp [hl], fun j p hj => ?_⟩
  rcases Nat.lt_or_ge j n with hlt | hge
  ·rw [List.getElem?_append_left (by omega)] at hj
   exact hy j p hj
  ·have hj' : j = n := by
    have := (List.getElem?_eq_some_iff.1 hj).1
    rw [List.length_append, List.length_singleton] at this
    omega
   subst hj'
   have : y = p := by rw [List.getElem?_append_right (by omega), hl, Nat.sub_self] at hj; simpa using hj
   subst this
   exact hq
theorem opens_slice {t e : TypeId} {α : Type} {d : Kd α} {ok : α → Prop} (hu : P.underlying t = some (.slice e)) (he : Opens P e d ok) (hc : P.cellsOf e = d.sz) (n : Nat) : Opens P t (Kd.slice n d) (fun ys => ∀ y ∈ ys, ok y) := by
 intro H enc w base spare held fuel cs x h
 rcases open_slice hu h with ⟨rfl, _⟩ | ⟨a, len, cap, m, n', D, Pl, rfl, _, hl, hm, hmm, _, hel⟩
 ·exact ⟨[], ⟨none, 0, rfl, Nat.le_refl _, rfl, by simp, fun h => by simp at h⟩, fun y hy => by cases hy⟩
 ·have hlm : len ≤ m := by
   rw [hmm]
   split <;> omega
  obtain ⟨ys, hy, hq⟩ := list_of len (fun i y => ok y ∧ ∃ cs', w.cells? base (a.add (i * P.cellsOf e)) (P.cellsOf e) = some cs' ∧ d.K w y cs') (fun i hi => by
   obtain ⟨cs', h1, h2⟩ := hel i (by omega)
   obtain ⟨y, hy, hok⟩ := he _ enc w base spare held n' cs' _ h2
   exact ⟨y, hok, cs', h1, hy⟩)
  subst hy
  refine ⟨ys, ⟨some a, cap, rfl, hl, rfl, by unfold maxLen at hm; omega, fun _ => ⟨a, rfl, fun j p hj => ?_⟩⟩, fun y hy => ?_⟩
  ·obtain ⟨_, cs', h1, h2⟩ := hq j p hj
   obtain ⟨_, h3, h4⟩ := World.cells?_some h1
   refine ⟨cs', h3.trans hc, h2, fun i u hi => ?_⟩
   have hi' : i < P.cellsOf e := by
    have := (List.getElem?_eq_some_iff.1 hi).1
    omega
   have := h4 i hi'
   rw [Addr.add_add, hc] at this
   rw [this]
   exact hi
  ·obtain ⟨j, hj, rfl⟩ := List.getElem_of_mem hy
   exact (hq j _ (List.getElem?_eq_getElem hj)).1
def Parts {α : Type} (P : Program) (fs : List Field) (o : Nat) (d : Kd α) (ok : α → Prop) : Prop :=
 ∀ (H : Type) (enc : TypeId × Value → H) (w : World) (base : Nat) (spare : Nat → Bool) (held : Bool) (fuel : Nat) (cs : List Value), cs.length = o + d.sz →
  (∀ f ∈ fs, ∃ x : DataW H × List MemPlace, DataW.trod enc P w base spare held fuel f.type ((cs.drop f.offset).take (P.cellsOf f.type)) = some x) → ∃ y : α, d.K w y (cs.drop o) ∧ ok y
theorem parts_last {α : Type} {d : Kd α} {ok : α → Prop} {f : Field} {o : Nat} (hf : Opens P f.type d ok) (ho : f.offset = o) (hc : P.cellsOf f.type = d.sz) : Parts P [f] o d ok := by
 intro H enc w base spare held fuel cs hl h
 obtain ⟨x, hx⟩ := h f (by simp)
 rw [ho, hc, List.take_of_length_le (by rw [List.length_drop]; omega)] at hx
 exact hf _ enc w base spare held fuel _ x hx
theorem parts_cons {α β : Type} {d : Kd α} {ds : Kd β} {ok : α → Prop} {oks : β → Prop} {f : Field} {fs : List Field} {o o' : Nat} (hf : Opens P f.type d ok) (ho : f.offset = o) (hc : P.cellsOf f.type = d.sz) (hs : Parts P fs o' ds oks) (ho' : o' = o + d.sz) : Parts P (f :: fs) o (Kd.pair d ds) (fun p => ok p.1 ∧ oks p.2) := by
 intro H enc w base spare held fuel cs hl h
 subst ho'
 have hl' : cs.length = o + (d.sz + ds.sz) := hl
 obtain ⟨x, hx⟩ := h f (by simp)
 rw [ho, hc] at hx
 obtain ⟨y, hy, oy⟩ := hf _ enc w base spare held fuel _ x hx
 obtain ⟨z, hz, oz⟩ := hs _ enc w base spare held fuel cs (by omega) (fun g hg => h g (by simp [hg]))
 refine ⟨(y, z), ⟨(cs.drop o).take d.sz, cs.drop (o + d.sz), ?_, hy, hz⟩, oy, oz⟩
 rw [← List.drop_drop]
 exact (List.take_append_drop _ _).symm
theorem opens_struct {t : TypeId} {fs : Array Field} {α β : Type} {d : Kd α} {ok : α → Prop} (hu : P.underlying t = some (.struct fs)) (hp : Parts P fs.toList 0 d ok) (hc : P.cellsOf t = d.sz) (f : β → α) (g : α → β) (hg : ∀ y, f (g y) = y) : Opens P t (Kd.iso d f) (fun y => ok (f y)) := by
 intro H enc w base spare held fuel cs x h
 obtain ⟨xs, n, _, _, hl, hlen, hi⟩ := DataW.trod_struct hu h
 obtain ⟨y, hy, oy⟩ := hp _ enc w base spare held n cs (by omega) (fun fl hfl => by
  obtain ⟨i, hlt, he⟩ := List.getElem_of_mem hfl
  have hlt' : i < fs.size := by simpa using hlt
  have := hi i fl (by rw [Array.getElem?_eq_getElem hlt']; simpa using he)
  rw [List.getElem?_eq_getElem (by omega)] at this
  exact ⟨_, this⟩)
 refine ⟨g y, ?_, ?_⟩
 ·show d.K w (f (g y)) cs
  rw [hg]
  simpa using hy
 ·show ok (f (g y))
  rw [hg]
  exact oy
theorem arg_struct {t : TypeId} {fs : Array Field} {α : Type} {d : Kd α} {ok : α → Prop} (hu : P.underlying t = some (.struct fs)) (ho : Opens P t d ok) {H : Type} {enc : TypeId × Value → H} {w : World} {base b0 : Nat} {spare : Nat → Bool} {held : Bool} {r : Reach} {v : Value} {x : DataW H} {p : List MemPlace}
  (hv : Value.okWide P w r b0 t v) (h : DataW.Trod enc P w base spare held t v x p) : ∃ (y : α) (cs : List Value), v = .agg cs.toArray ∧ d.K w y cs ∧ ok y := by
 obtain ⟨cs, rfl, _⟩ := okWide_struct hu hv
 obtain ⟨fuel, hf⟩ := h
 obtain ⟨y, hy, oy⟩ := ho _ enc w base spare held fuel _ _ hf
 exact ⟨y, cs.toList, by simp, by simpa [Value.cells] using hy, oy⟩
end Go.Proofs.Ytonhdiemjgdcnaa.Opened
