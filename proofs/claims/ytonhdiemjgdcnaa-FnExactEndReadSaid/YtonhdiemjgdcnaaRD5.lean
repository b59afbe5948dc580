import Derived.Test.YtonhdiemjgdcnaaRD4
set_option maxHeartbeats 64000000
set_option maxRecDepth 100000
set_option linter.unusedVariables false
set_option linter.unusedSimpArgs false
namespace Go.Proofs.Ytonhdiemjgdcnaa.PFnExactGivePage
open Go.RowKit Go.Proofs.YtonhdiemjgdcnaaW.PrintWords Go.Proofs.YtonhdiemjgdcnaaW.PrintLast Go.Proofs.YtonhdiemjgdcnaaW.PrintMore
attribute [local go_sem] max2_int min2_int max_two min_two max_three min_three max_four min_four
theorem rdOf_nat {α : Type} (d : α) (xs : List α) (k : Nat) (hk : k < xs.length) : rdOf d xs (k : Int) = xs[k] := by
 simp [rdOf, List.getD_eq_getElem?_getD, List.getElem?_eq_getElem hk]
theorem rd_nat (xs : List Int) (k : Nat) (hk : k < xs.length) : rd xs (k : Int) = xs[k] := by
 simp [rd, List.getD_eq_getElem?_getD, List.getElem?_eq_getElem hk]
theorem rd_T135_nat (xs : List S135) (k : Nat) (hk : k < xs.length) : rd_T135 xs (k : Int) = xs[k] := by
 simp [rd_T135, List.getD_eq_getElem?_getD, List.getElem?_eq_getElem hk]
theorem rd_T140_nat (xs : List S140) (k : Nat) (hk : k < xs.length) : rd_T140 xs (k : Int) = xs[k] := by
 simp [rd_T140, List.getD_eq_getElem?_getD, List.getElem?_eq_getElem hk]
theorem wrap_in {x : Int} (h1 : -9223372036854775808 ≤ x) (h2 : x ≤ 9223372036854775807) : wrap64 x = x := by unfold wrap64; omega
theorem szS_go (l : List ByteArray) (hs : ∀ s ∈ l, s.size ≤ 9223372036854775807) (hl : l.length ≤ 9223372036854775807) : ∀ (n i : Nat) (x : Int), i + n = l.length → 0 ≤ x → x ≤ 1048576 → ∃ r, laws_szStringS.l0 (n + 1) l x (i : Int) = some r ∧ (r < 0 ∨ (0 ≤ r ∧ r ≤ x ∧ ∀ j (hj : j < l.length), i ≤ j → (l[j].size : Int) ≤ x)) := by
 intro n
 induction n with
 | zero =>
  intro i x hi h0 h1
  refine ⟨x, ?_, .inr ⟨h0, Int.le_refl _, fun j hj h => by omega⟩⟩
  rw [laws_szStringS.l0, if_neg (by omega)]
 | succ n ih =>
  intro i x hi h0 h1
  have hlt : i < l.length := by omega
  have hsz := hs l[i] (List.getElem_mem hlt)
  rw [laws_szStringS.l0, if_pos (by omega), if_pos (by omega), rdOf_nat _ _ _ hlt, wrap_in (by omega) (by omega), wrap_in (by omega) (by omega)]
  by_cases hneg : x - (l[i].size : Int) < 0
  ·rw [if_pos hneg]
   exact ⟨-1, rfl, .inl (by omega)⟩
  ·rw [if_neg hneg]
   obtain ⟨r, h2, h3⟩ := ih (i + 1) (x - (l[i].size : Int)) (by omega) (by omega) (by omega)
   refine ⟨r, by rw [show (i : Int) + 1 = ((i + 1 : Nat) : Int) by omega]; exact h2, ?_⟩
   rcases h3 with h3 | ⟨h4, h5, h6⟩
   ·exact .inl h3
   ·refine .inr ⟨h4, by omega, fun j hj h => ?_⟩
    by_cases e : j = i
    ·subst e; omega
    ·have := h6 j hj (by omega); omega
theorem szS_ev (l : List ByteArray) (hs : ∀ s ∈ l, s.size ≤ 9223372036854775807) (hl : l.length ≤ 9223372036854775807) (x : Int) (h0 : 0 ≤ x) (h1 : x ≤ 1048576) : ∃ r, Ev (fun k => laws_szStringS.f k l x) r ∧ (r < 0 ∨ (0 ≤ r ∧ r ≤ x ∧ (l.length : Int) ≤ x ∧ ∀ s ∈ l, (s.size : Int) ≤ x)) := by
 by_cases hneg : x - (l.length : Int) < 0
 ·refine ⟨-1, Ev.of (k := 0) (fun k => laws_szStringS.mono _ _ k) ?_, .inl (by omega)⟩
  unfold laws_szStringS.f
  rw [wrap_in (by omega) (by omega), if_pos hneg]
 ·obtain ⟨r, h2, h3⟩ := szS_go l hs hl l.length 0 (x - (l.length : Int)) (by omega) (by omega) (by omega)
  refine ⟨r, Ev.of (k := l.length + 1) (fun k => laws_szStringS.mono _ _ k) ?_, ?_⟩
  ·unfold laws_szStringS.f
   rw [wrap_in (by omega) (by omega), if_neg hneg]
   exact h2
  ·rcases h3 with h3 | ⟨h4, h5, h6⟩
   ·exact .inl h3
   ·refine .inr ⟨h4, by omega, by omega, fun s hs => ?_⟩
    obtain ⟨j, hj, rfl⟩ := List.getElem_of_mem hs
    have := h6 j hj (Nat.zero_le _)
    omega
theorem szP_go (l : List S140) (hs : ∀ s ∈ l, s.f1.size ≤ 9223372036854775807) (hl : l.length ≤ 9223372036854775807) : ∀ (n i : Nat) (x : Int), i + n = l.length → 0 ≤ x → x ≤ 1048576 → ∃ r, laws_szPutS.l0 (n + 1) l x (i : Int) = some r ∧ (r < 0 ∨ (0 ≤ r ∧ r ≤ x ∧ ∀ j (hj : j < l.length), i ≤ j → (l[j].f1.size : Int) ≤ x)) := by
 intro n
 induction n with
 | zero =>
  intro i x hi h0 h1
  refine ⟨x, ?_, .inr ⟨h0, Int.le_refl _, fun j hj h => by omega⟩⟩
  rw [laws_szPutS.l0, if_neg (by omega)]
 | succ n ih =>
  intro i x hi h0 h1
  have hlt : i < l.length := by omega
  have hsz := hs l[i] (List.getElem_mem hlt)
  rw [laws_szPutS.l0, if_pos (by omega), if_pos (by omega), rd_T140_nat _ _ hlt, laws_szPut.f, wrap_in (x := x - _) (by omega) (by omega), wrap_in (x := (i : Int) + 1) (by omega) (by omega)]
  by_cases hneg : x - (l[i].f1.size : Int) < 0
  ·rw [if_pos hneg, Option.bind_some, if_pos (by omega)]
   exact ⟨-1, rfl, .inl (by omega)⟩
  ·rw [if_neg hneg, Option.bind_some, if_neg hneg]
   obtain ⟨r, h2, h3⟩ := ih (i + 1) (x - (l[i].f1.size : Int)) (by omega) (by omega) (by omega)
   refine ⟨r, by rw [show (i : Int) + 1 = ((i + 1 : Nat) : Int) by omega]; exact h2, ?_⟩
   rcases h3 with h3 | ⟨h4, h5, h6⟩
   ·exact .inl h3
   ·refine .inr ⟨h4, by omega, fun j hj h => ?_⟩
    by_cases e : j = i
    ·subst e; omega
    ·have := h6 j hj (by omega); omega
theorem szP_ev (l : List S140) (hs : ∀ s ∈ l, s.f1.size ≤ 9223372036854775807) (hl : l.length ≤ 9223372036854775807) (x : Int) (h0 : 0 ≤ x) (h1 : x ≤ 1048576) : ∃ r, Ev (fun k => laws_szPutS.f k l x) r ∧ (r < 0 ∨ (0 ≤ r ∧ r ≤ x ∧ (l.length : Int) ≤ x ∧ ∀ s ∈ l, (s.f1.size : Int) ≤ x)) := by
 by_cases hneg : x - (l.length : Int) < 0
 ·refine ⟨-1, Ev.of (k := 0) (fun k => laws_szPutS.mono _ _ k) ?_, .inl (by omega)⟩
  unfold laws_szPutS.f
  rw [wrap_in (by omega) (by omega), if_pos hneg]
 ·obtain ⟨r, h2, h3⟩ := szP_go l hs hl l.length 0 (x - (l.length : Int)) (by omega) (by omega) (by omega)
  refine ⟨r, Ev.of (k := l.length + 1) (fun k => laws_szPutS.mono _ _ k) ?_, ?_⟩
  ·unfold laws_szPutS.f
   rw [wrap_in (by omega) (by omega), if_neg hneg]
   exact h2
  ·rcases h3 with h3 | ⟨h4, h5, h6⟩
   ·exact .inl h3
   ·refine .inr ⟨h4, by omega, by omega, fun s hs => ?_⟩
    obtain ⟨j, hj, rfl⟩ := List.getElem_of_mem hs
    have := h6 j hj (Nat.zero_le _)
    omega
def Small (pages : List ByteArray) (late : List S140) : Prop := (pages.length ≤ 1048576 ∧ ∀ s ∈ pages, s.size ≤ 1048576) ∧ (late.length ≤ 1048576 ∧ ∀ s ∈ late, s.f1.size ≤ 1048576)
theorem set_front {α : Type} (l r : List α) (x y : α) : (l ++ x :: r).set l.length y = (l ++ [y]) ++ r := by
 rw [List.set_append_right _ _ (Nat.le_refl _), Nat.sub_self, List.set_cons_zero, List.append_assoc, List.singleton_append]
theorem toS_go (l : List ByteArray) (hl : l.length ≤ 1048576) : ∀ (n i : Nat), i + n = l.length → laws_toStringS.l0 (n + 1) l (l.take i ++ List.replicate n (⟨#[]⟩ : ByteArray)) (i : Int) = some l := by
 intro n
 induction n with
 | zero =>
  intro i hi
  rw [laws_toStringS.l0, if_neg (by omega), List.replicate_zero, List.append_nil, List.take_of_length_le (by omega)]
 | succ n ih =>
  intro i hi
  have hlt : i < l.length := by omega
  have hti : (l.take i).length = i := by rw [List.length_take]; omega
  rw [laws_toStringS.l0, if_pos (by omega), if_pos (by omega), if_pos (by simp; omega), rdOf_nat _ _ _ hlt, wrap_in (by omega) (by omega), Int.toNat_natCast, List.replicate_succ]
  have := set_front (l.take i) (List.replicate n (⟨#[]⟩ : ByteArray)) ⟨#[]⟩ l[i]
  rw [hti] at this
  rw [this, List.take_append_getElem hlt, show (i : Int) + 1 = ((i + 1 : Nat) : Int) by omega]
  exact ih (i + 1) (by omega)
theorem toS_ev (l : List ByteArray) (hl : l.length ≤ 1048576) : Ev (fun k => laws_toStringS.f k l) l := by
 refine Ev.of (k := l.length + 1) (fun k => laws_toStringS.mono _ k) ?_
 unfold laws_toStringS.f
 rw [if_pos (by omega), if_pos (by rw [Int.toNat_natCast]; omega), Int.toNat_natCast]
 have := toS_go l hl l.length 0 (by omega)
 simpa using this
def conv (x : S140) : S135 := ⟨x.f0, x.f1⟩
theorem toP_go (l : List S140) (hl : l.length ≤ 1048576) : ∀ (n i : Nat), i + n = l.length → laws_toPutS.l0 (n + 1) l ((l.map conv).take i ++ List.replicate n z135) (i : Int) = some (l.map conv) := by
 intro n
 induction n with
 | zero =>
  intro i hi
  rw [laws_toPutS.l0, if_neg (by omega), List.replicate_zero, List.append_nil, List.take_of_length_le (by rw [List.length_map]; omega)]
 | succ n ih =>
  intro i hi
  have hlt : i < l.length := by omega
  have hlt' : i < (l.map conv).length := by rw [List.length_map]; exact hlt
  have hti : ((l.map conv).take i).length = i := by rw [List.length_take, List.length_map]; omega
  rw [laws_toPutS.l0, if_pos (by omega), if_pos (by omega), rd_T140_nat _ _ hlt, laws_toPut.f, Option.bind_some, if_pos (by simp; omega), wrap_in (by omega) (by omega), Int.toNat_natCast, List.replicate_succ]
  have := set_front ((l.map conv).take i) (List.replicate n z135) z135 (conv l[i])
  rw [hti] at this
  show laws_toPutS.l0 (n + 1) l (((l.map conv).take i ++ z135 :: List.replicate n z135).set i (conv l[i])) _ = _
  rw [this, show conv l[i] = (l.map conv)[i] by rw [List.getElem_map], List.take_append_getElem hlt', show (i : Int) + 1 = ((i + 1 : Nat) : Int) by omega]
  exact ih (i + 1) (by omega)
theorem toP_ev (l : List S140) (hl : l.length ≤ 1048576) : Ev (fun k => laws_toPutS.f k l) (l.map conv) := by
 refine Ev.of (k := l.length + 1) (fun k => laws_toPutS.mono _ k) ?_
 unfold laws_toPutS.f
 rw [if_pos (by omega), if_pos (by rw [Int.toNat_natCast]; omega), Int.toNat_natCast]
 have := toP_go l hl l.length 0 (by omega)
 simpa using this
theorem toD_ev (pages : List ByteArray) (late : List S140) (h : Small pages late) : Ev (fun k => laws_toDisk.f k pages late) (pages, late.map conv) :=
 Ev.bind (toS_ev pages h.1.1) (Ev.bind (toP_ev late h.2.1) (Ev.now _))
theorem eqS_go (l : List ByteArray) (hl : l.length ≤ 2000000) : ∀ (n i : Nat), i + n = l.length → laws_eqStringS.l0 (n + 1) l l (i : Int) = some true := by
 intro n
 induction n with
 | zero => intro i hi; rw [laws_eqStringS.l0, if_neg (by omega)]
 | succ n ih =>
  intro i hi
  rw [laws_eqStringS.l0, if_pos (by omega), if_pos (by omega), if_pos (by omega), if_pos rfl, wrap_in (by omega) (by omega), show (i : Int) + 1 = ((i + 1 : Nat) : Int) by omega]
  exact ih (i + 1) (by omega)
theorem eqP_go (l : List S135) (hl : l.length ≤ 2000000) : ∀ (n i : Nat), i + n = l.length → laws_eqPutS.l0 (n + 1) l l (i : Int) = some true := by
 intro n
 induction n with
 | zero => intro i hi; rw [laws_eqPutS.l0, if_neg (by omega)]
 | succ n ih =>
  intro i hi
  rw [laws_eqPutS.l0, if_pos (by omega), if_pos (by omega), if_pos (by omega), laws_eqPut.f, if_pos rfl, if_pos rfl, Option.bind_some, if_pos rfl, wrap_in (by omega) (by omega), show (i : Int) + 1 = ((i + 1 : Nat) : Int) by omega]
  exact ih (i + 1) (by omega)
theorem eqD_ev (pages : List ByteArray) (late : List S135) (h1 : pages.length ≤ 2000000) (h2 : late.length ≤ 2000000) : Ev (fun k => laws_eqDisk.f k pages late pages late) true := by
 refine Ev.bind (a := true) (Ev.of (k := pages.length + 1) (fun k => laws_eqStringS.mono _ _ k) ?_) ?_
 ·unfold laws_eqStringS.f
  rw [if_pos rfl]
  exact eqS_go pages h1 pages.length 0 (by omega)
 ·simp only [if_true]
  refine Ev.bind (a := true) (Ev.of (k := late.length + 1) (fun k => laws_eqPutS.mono _ _ k) ?_) ?_
  ·unfold laws_eqPutS.f
   rw [if_pos rfl]
   exact eqP_go late h2 late.length 0 (by omega)
  ·simp only [if_true]
   exact Ev.now _
theorem eqI_go (l : List Int) (hl : l.length ≤ 2000000) : ∀ (n i : Nat), i + n = l.length → laws_eqIntS.l0 (n + 1) l l (i : Int) = some true := by
 intro n
 induction n with
 | zero => intro i hi; rw [laws_eqIntS.l0, if_neg (by omega)]
 | succ n ih =>
  intro i hi
  rw [laws_eqIntS.l0, if_pos (by omega), if_pos (by omega), if_pos (by omega), if_pos rfl, wrap_in (by omega) (by omega), show (i : Int) + 1 = ((i + 1 : Nat) : Int) by omega]
  exact ih (i + 1) (by omega)
theorem eqI_ev (l : List Int) (hl : l.length ≤ 2000000) : Ev (fun k => laws_eqIntS.f k l l) true := by
 refine Ev.of (k := l.length + 1) (fun k => laws_eqIntS.mono _ _ k) ?_
 unfold laws_eqIntS.f
 rw [if_pos rfl]
 exact eqI_go l hl l.length 0 (by omega)
theorem toI_go (l : List Int) (hl : l.length ≤ 1048576) : ∀ (n i : Nat), i + n = l.length → laws_toIntS.l0 (n + 1) l (l.take i ++ List.replicate n 0) (i : Int) = some l := by
 intro n
 induction n with
 | zero =>
  intro i hi
  rw [laws_toIntS.l0, if_neg (by omega), List.replicate_zero, List.append_nil, List.take_of_length_le (by omega)]
 | succ n ih =>
  intro i hi
  have hlt : i < l.length := by omega
  have hti : (l.take i).length = i := by rw [List.length_take]; omega
  rw [laws_toIntS.l0, if_pos (by omega), if_pos (by omega), if_pos (by simp; omega), rd_nat _ _ hlt, wrap_in (by omega) (by omega), Int.toNat_natCast, List.replicate_succ]
  have := set_front (l.take i) (List.replicate n (0 : Int)) 0 l[i]
  rw [hti] at this
  rw [this, List.take_append_getElem hlt, show (i : Int) + 1 = ((i + 1 : Nat) : Int) by omega]
  exact ih (i + 1) (by omega)
theorem toI_ev (l : List Int) (hl : l.length ≤ 1048576) : Ev (fun k => laws_toIntS.f k l) l := by
 refine Ev.of (k := l.length + 1) (fun k => laws_toIntS.mono _ k) ?_
 unfold laws_toIntS.f
 rw [if_pos (by omega), if_pos (by rw [Int.toNat_natCast]; omega), Int.toNat_natCast]
 have := toI_go l hl l.length 0 (by omega)
 simpa using this
theorem mt_go : ∀ (n : Nat) (a : Int) (x : ByteArray), 0 ≤ a → a < 10 ^ n → a ≤ 9223372036854775807 → x.size + n ≤ 1000 → ∃ t, laws_markText.l0 (n + 1) a x = some t := by
 intro n
 induction n with
 | zero =>
  intro a x h0 h1 _ h2
  rw [laws_markText.l0, if_neg (by omega), if_pos (by omega)]
  exact ⟨_, rfl⟩
 | succ n ih =>
  intro a x h0 h1 hb h2
  by_cases ha : a > 0
  ·rw [laws_markText.l0, if_pos ha, Option.bind_some, if_pos (by rw [strOfNums_size]; simp; omega)]
   have e : wrap64 (Int.tdiv a 10) = a / 10 := by rw [Int.tdiv_eq_ediv_of_nonneg h0]; exact wrap_in (by omega) (by omega)
   rw [e]
   refine ih (a / 10) _ (by omega) ?_ (by omega) ?_
   ·rw [Int.pow_succ] at h1
    omega
   ·rw [ByteArray.size_append, strOfNums_size]
    simp
    omega
  ·rw [laws_markText.l0, if_neg ha, if_pos (by omega)]
   exact ⟨_, rfl⟩
theorem mt_ex (a : Int) (h0 : 0 < a) (h1 : a ≤ 4000000000000000000) : ∃ t, Ev (fun k => laws_markText.f k a) t := by
 obtain ⟨t, ht⟩ := mt_go 19 a ⟨#[]⟩ (by omega) (by have : (10 : Int) ^ 19 = 10000000000000000000 := (by decide); omega) (by omega) (by decide)
 refine ⟨t, Ev.of (k := 20) (fun k => laws_markText.mono _ k) ?_⟩
 unfold laws_markText.f
 rw [if_neg (by omega)]
 exact ht
open Classical in
noncomputable def mt (a : Int) : ByteArray := if h : ∃ t, Ev (fun k => laws_markText.f k a) t then Classical.choose h else ⟨#[]⟩
theorem mt_ev (a : Int) (h0 : 0 < a) (h1 : a ≤ 4000000000000000000) : Ev (fun k => laws_markText.f k a) (mt a) := by
 unfold mt
 rw [dif_pos (mt_ex a h0 h1)]
 exact Classical.choose_spec (mt_ex a h0 h1)
def INd (pages : List ByteArray) (late : List S140) : Prop := (∀ s ∈ pages, s.size ≤ 9223372036854775807) ∧ pages.length ≤ 9223372036854775807 ∧ (∀ s ∈ late, s.f1.size ≤ 9223372036854775807) ∧ late.length ≤ 9223372036854775807
theorem szDx (pages : List ByteArray) (late : List S140) (h : INd pages late) (x : Int) (h0 : 0 ≤ x) (hx : x ≤ 1048576) : ∃ r, Ev (fun k => laws_szDisk.f k pages late x) r ∧ (r < 0 ∨ (0 ≤ r ∧ r ≤ x ∧ Small pages late)) := by
 obtain ⟨h1, h2, h3, h4⟩ := h
 obtain ⟨a, ea, ha⟩ := szS_ev pages h1 h2 x h0 hx
 rcases ha with ha | ⟨a0, a1, a2, a3⟩
 ·exact ⟨-1, Ev.bind ea (by simp only [if_pos ha]; exact Ev.now _), .inl (by omega)⟩
 ·obtain ⟨b, eb, hb⟩ := szP_ev late h3 h4 a a0 (by omega)
  rcases hb with hb | ⟨b0, b1, b2, b3⟩
  ·exact ⟨-1, Ev.bind ea (by simp only [if_neg (show ¬ a < 0 by omega)]; exact Ev.bind eb (by simp only [if_pos hb]; exact Ev.now _)), .inl (by omega)⟩
  ·exact ⟨b, Ev.bind ea (by simp only [if_neg (show ¬ a < 0 by omega)]; exact Ev.bind eb (by simp only [if_neg (show ¬ b < 0 by omega)]; exact Ev.now _)), .inr ⟨b0, by omega, ⟨by omega, fun s hs => by have := a3 s hs; omega⟩, ⟨by omega, fun s hs => by have := b3 s hs; omega⟩⟩⟩
theorem szIx (l : List Int) (hl : l.length ≤ 9223372036854775807) (x : Int) (h0 : 0 ≤ x) (hx : x ≤ 1048576) : ∃ r, Ev (fun _ => laws_szIntS.f l x) r ∧ (r < 0 ∨ (0 ≤ r ∧ r ≤ x ∧ l.length ≤ 1048576)) := by
 unfold laws_szIntS.f
 rw [wrap_in (by omega) (by omega)]
 by_cases h : x - (l.length : Int) < 0
 ·exact ⟨-1, by rw [if_pos h]; exact Ev.now _, .inl (by omega)⟩
 ·exact ⟨_, by rw [if_neg h]; exact Ev.now _, .inr ⟨by omega, by omega, by omega⟩⟩
theorem sz_step {A : Nat → Option Int} {F : Nat → Int → Option Int} {x : Int} {P Q : Prop} (hA : ∃ r, Ev A r ∧ (r < 0 ∨ (0 ≤ r ∧ r ≤ x ∧ P))) (hF : ∀ y, 0 ≤ y → y ≤ x → ∃ r, Ev (fun k => F k y) r ∧ (r < 0 ∨ (0 ≤ r ∧ r ≤ y ∧ Q))) : ∃ r, Ev (fun k => (A k).bind fun t => if t < 0 then some (-1) else F k t) r ∧ (r < 0 ∨ (0 ≤ r ∧ r ≤ x ∧ P ∧ Q)) := by
 obtain ⟨a, ea, ha⟩ := hA
 rcases ha with ha | ⟨a0, a1, a2⟩
 ·exact ⟨-1, Ev.bind ea (by simp only [if_pos ha]; exact Ev.now _), .inl (by omega)⟩
 ·obtain ⟨b, eb, hb⟩ := hF a a0 a1
  refine ⟨b, Ev.bind ea (by simp only [if_neg (show ¬ a < 0 by omega)]; exact eb), ?_⟩
  rcases hb with hb | ⟨b0, b1, b2⟩
  ·exact .inl hb
  ·exact .inr ⟨b0, by omega, a2, b2⟩
theorem sz_end {A : Nat → Option Int} {x : Int} {P : Prop} (hA : ∃ r, Ev A r ∧ (r < 0 ∨ (0 ≤ r ∧ r ≤ x ∧ P))) : ∃ r, Ev (fun k => (A k).bind fun t => if t < 0 then some (-1) else some t) r ∧ (r < 0 ∨ (0 ≤ r ∧ r ≤ x ∧ P)) := by
 obtain ⟨a, ea, ha⟩ := hA
 rcases ha with ha | ⟨a0, a1, a2⟩
 ·exact ⟨-1, Ev.bind ea (by simp only [if_pos ha]; exact Ev.now _), .inl (by omega)⟩
 ·exact ⟨a, Ev.bind ea (by simp only [if_neg (show ¬ a < 0 by omega)]; exact Ev.now _), .inr ⟨a0, a1, a2⟩⟩
def INi (l : List Int) : Prop := l.length ≤ 9223372036854775807
theorem szWx (pages : List ByteArray) (late : List S140) (n : Int) (u g f : List Int) (hd : INd pages late) (hu : INi u) (hg : INi g) (hf : INi f) (x : Int) (h0 : 0 ≤ x) (hx : x ≤ 1048576) : ∃ r, Ev (fun k => laws_szWork.f k pages late n u g f x) r ∧ (r < 0 ∨ (0 ≤ r ∧ r ≤ x ∧ Small pages late ∧ u.length ≤ 1048576 ∧ g.length ≤ 1048576 ∧ f.length ≤ 1048576)) := by
 unfold laws_szWork.f
 exact sz_step (szDx pages late hd x h0 hx) fun y y0 y1 => sz_step (szIx u hu y y0 (by omega)) fun z z0 z1 => sz_step (szIx g hg z z0 (by omega)) fun t t0 t1 => sz_end (szIx f hf t t0 (by omega))
theorem rd135 (xs : List S135) (i : Nat) (h : i < xs.length) : rd_T135 xs (i : Int) = xs[i] := rd_T135_nat xs i h
theorem mhS : ∀ (n i : Nat) (l : List ByteArray) (a : Int), i + n = l.length → 0 < a → a + n < 4000000000000000000 → l.length ≤ 2000000 → ∃ l', Ev (fun k => laws_markStringS.l0 k l a (i : Int)) (a + n, l') ∧ l'.length = l.length ∧ (∀ j, j < i → l'[j]? = l[j]?) ∧ Ev (fun k => laws_heldStringS.l0 k l' a (i : Int)) (a + n) := by
 intro n
 induction n with
 | zero =>
  intro i l a hi h0 h1 hl
  refine ⟨l, Ev.step (f := fun _ => some (a + ((0 : Nat) : Int), l)) (fun k => ?_) (Ev.now _), rfl, fun _ _ => rfl, Ev.step (f := fun _ => some (a + ((0 : Nat) : Int))) (fun k => ?_) (Ev.now _)⟩
  ·rw [laws_markStringS.l0, if_neg (by omega)]
   simp
  ·rw [laws_heldStringS.l0, if_neg (by omega)]
   simp
 | succ n ih =>
  intro i l a hi h0 h1 hl
  obtain ⟨l', e1, e2, e3, e4⟩ := ih (i + 1) (l.set i (mt a)) (a + 1) (by rw [List.length_set]; omega) (by omega) (by omega) (by rw [List.length_set]; exact hl)
  rw [List.length_set] at e2
  have hat : l'[i]? = some (mt a) := by rw [e3 i (Nat.lt_succ_self i), List.getElem?_set_self (by omega)]
  have hlt : i < l'.length := by omega
  have hget : l'[i] = mt a := by rw [List.getElem?_eq_getElem hlt] at hat; exact Option.some.inj hat
  have hn : a + 1 + (n : Int) = a + ((n + 1 : Nat) : Int) := by omega
  rw [hn] at e1 e4
  refine ⟨l', Ev.step (f := fun k => (laws_markText.f k a).bind fun t => laws_markStringS.l0 k (l.set i t) (a + 1) ((i + 1 : Nat) : Int)) (fun k => ?_) (Ev.bind (mt_ev a h0 (by omega)) e1), e2, fun j hj => ?_, Ev.step (f := fun k => (laws_markText.f k a).bind fun t => if (mt a).toList = t.toList then laws_heldStringS.l0 k l' (a + 1) ((i + 1 : Nat) : Int) else none) (fun k => ?_) (Ev.bind (mt_ev a h0 (by omega)) (by simp only [if_true]; exact e4))⟩
  ·rw [laws_markStringS.l0, if_pos (by omega)]
   congr 1
   funext t
   rw [if_pos (by omega), wrap_in (by omega) (by omega), wrap_in (by omega) (by omega), Int.toNat_natCast]
   rfl
  ·rw [e3 j (by omega), List.getElem?_set_ne (by omega)]
  ·rw [laws_heldStringS.l0, if_pos (by omega), if_pos (by omega), rdOf_nat _ _ _ hlt, hget, wrap_in (x := a + 1) (by omega) (by omega), wrap_in (x := (i : Int) + 1) (by omega) (by omega)]
   rfl
theorem mhP : ∀ (n i : Nat) (l : List S135) (a : Int), i + n = l.length → 0 < a → a + 2 * n < 4000000000000000000 → l.length ≤ 2000000 → ∃ l', Ev (fun k => laws_markPutS.l0 k l a (i : Int)) (a + 2 * n, l') ∧ l'.length = l.length ∧ (∀ j, j < i → l'[j]? = l[j]?) ∧ Ev (fun k => laws_heldPutS.l0 k l' a (i : Int)) (a + 2 * n) := by
 intro n
 induction n with
 | zero =>
  intro i l a hi h0 h1 hl
  refine ⟨l, Ev.step (f := fun _ => some (a + 2 * ((0 : Nat) : Int), l)) (fun k => ?_) (Ev.now _), rfl, fun _ _ => rfl, Ev.step (f := fun _ => some (a + 2 * ((0 : Nat) : Int))) (fun k => ?_) (Ev.now _)⟩
  ·rw [laws_markPutS.l0, if_neg (by omega)]
   simp
  ·rw [laws_heldPutS.l0, if_neg (by omega)]
   simp
 | succ n ih =>
  intro i l a hi h0 h1 hl
  obtain ⟨l1, hl1⟩ : ∃ z, z = l.set i (⟨a, (rd_T135 l i).f1⟩ : S135) := ⟨_, rfl⟩
  have hs : l1.length = l.length := by rw [hl1, List.length_set]
  have h10 : (rd_T135 l1 i).f0 = a := by
   rw [rd135 l1 i (by omega)]
   simp [hl1]
  obtain ⟨l', e1, e2, e3, e4⟩ := ih (i + 1) (l1.set i (⟨a, mt (a + 1)⟩ : S135)) (a + 2) (by rw [List.length_set, hs]; omega) (by omega) (by omega) (by rw [List.length_set, hs]; exact hl)
  rw [List.length_set, hs] at e2
  have hlt : i < l'.length := by omega
  have hat : l'[i]? = some (⟨a, mt (a + 1)⟩ : S135) := by rw [e3 i (Nat.lt_succ_self i), List.getElem?_set_self (by omega)]
  have hget : l'[i] = (⟨a, mt (a + 1)⟩ : S135) := by rw [List.getElem?_eq_getElem hlt] at hat; exact Option.some.inj hat
  have hn : a + 2 + 2 * (n : Int) = a + 2 * ((n + 1 : Nat) : Int) := by omega
  rw [hn] at e1 e4
  refine ⟨l', Ev.step (f := fun k => (laws_markText.f k (a + 1)).bind fun t => laws_markPutS.l0 k (l1.set i (⟨a, t⟩ : S135)) (a + 2) ((i + 1 : Nat) : Int)) (fun k => ?_) (Ev.bind (mt_ev (a + 1) (by omega) (by omega)) e1), e2, fun j hj => ?_, Ev.step (f := fun k => (laws_markText.f k (a + 1)).bind fun t => if (mt (a + 1)).toList = t.toList then laws_heldPutS.l0 k l' (a + 2) ((i + 1 : Nat) : Int) else none) (fun k => ?_) (Ev.bind (mt_ev (a + 1) (by omega) (by omega)) (by simp only [if_true]; exact e4))⟩
  ·rw [laws_markPutS.l0, if_pos (by omega), if_pos (by omega), Option.bind_some, Int.toNat_natCast, ← hl1, h10, wrap_in (x := a + 1) (by omega) (by omega), wrap_in (x := a + 1 + 1) (by omega) (by omega), wrap_in (x := (i : Int) + 1) (by omega) (by omega), show a + 1 + 1 = a + 2 by omega]
   rfl
  ·rw [e3 j (by omega), List.getElem?_set_ne (by omega), hl1, List.getElem?_set_ne (by omega)]
  ·rw [laws_heldPutS.l0, if_pos (by omega), if_pos (by omega), rd135 _ _ hlt, hget, if_pos rfl, wrap_in (x := a + 1) (by omega) (by omega), wrap_in (x := a + 1 + 1) (by omega) (by omega), wrap_in (x := (i : Int) + 1) (by omega) (by omega), show a + 1 + 1 = a + 2 by omega]
   rfl
theorem mhI : ∀ (n i : Nat) (l : List Int) (a : Int), i + n = l.length → 0 < a → a + n < 4000000000000000000 → l.length ≤ 2000000 → ∃ l', Ev (fun k => laws_markIntS.l0 k l a (i : Int)) (a + n, l') ∧ l'.length = l.length ∧ (∀ j, j < i → l'[j]? = l[j]?) ∧ Ev (fun k => laws_heldIntS.l0 k l' a (i : Int)) (a + n) := by
 intro n
 induction n with
 | zero =>
  intro i l a hi h0 h1 hl
  refine ⟨l, Ev.step (f := fun _ => some (a + ((0 : Nat) : Int), l)) (fun k => ?_) (Ev.now _), rfl, fun _ _ => rfl, Ev.step (f := fun _ => some (a + ((0 : Nat) : Int))) (fun k => ?_) (Ev.now _)⟩
  ·rw [laws_markIntS.l0, if_neg (by omega)]
   simp
  ·rw [laws_heldIntS.l0, if_neg (by omega)]
   simp
 | succ n ih =>
  intro i l a hi h0 h1 hl
  obtain ⟨l', e1, e2, e3, e4⟩ := ih (i + 1) (l.set i a) (a + 1) (by rw [List.length_set]; omega) (by omega) (by omega) (by rw [List.length_set]; exact hl)
  rw [List.length_set] at e2
  have hat : l'[i]? = some a := by rw [e3 i (Nat.lt_succ_self i), List.getElem?_set_self (by omega)]
  have hlt : i < l'.length := by omega
  have hget : l'[i] = a := by rw [List.getElem?_eq_getElem hlt] at hat; exact Option.some.inj hat
  have hn : a + 1 + (n : Int) = a + ((n + 1 : Nat) : Int) := by omega
  rw [hn] at e1 e4
  refine ⟨l', Ev.step (f := fun k => laws_markIntS.l0 k (l.set i a) (a + 1) ((i + 1 : Nat) : Int)) (fun k => ?_) e1, e2, fun j hj => ?_, Ev.step (f := fun k => laws_heldIntS.l0 k l' (a + 1) ((i + 1 : Nat) : Int)) (fun k => ?_) e4⟩
  ·rw [laws_markIntS.l0, if_pos (by omega), if_pos (by omega), wrap_in (by omega) (by omega), wrap_in (by omega) (by omega), Int.toNat_natCast]
   rfl
  ·rw [e3 j (by omega), List.getElem?_set_ne (by omega)]
  ·rw [laws_heldIntS.l0, if_pos (by omega), if_pos (by omega), rd_nat _ _ hlt, hget, if_pos rfl, wrap_in (x := a + 1) (by omega) (by omega), wrap_in (x := (i : Int) + 1) (by omega) (by omega)]
   rfl
theorem mhI_ev (l : List Int) (a : Int) (h0 : 0 < a) (h1 : a + l.length < 4000000000000000000) (hl : l.length ≤ 2000000) : ∃ l', Ev (fun k => laws_markIntS.f k l a) (a + l.length, l') ∧ Ev (fun k => laws_heldIntS.f k l' a) (a + l.length) := by
 obtain ⟨l', e1, _, _, e4⟩ := mhI l.length 0 l a (by omega) h0 h1 hl
 exact ⟨l', e1, e4⟩
theorem mhD_ev (p : List ByteArray) (q : List S135) (a : Int) (h0 : 0 < a) (h1 : a + 10000000 < 4000000000000000000) (hp : p.length ≤ 2000000) (hq : q.length ≤ 2000000) : ∃ p' q', Ev (fun k => laws_markDisk.f k p q a) (a + p.length + 2 * q.length, p', q') ∧ Ev (fun k => laws_heldDisk.f k p' q' a) (a + p.length + 2 * q.length) := by
 obtain ⟨p', e1, _, _, e4⟩ := mhS p.length 0 p a (by omega) h0 (by omega) hp
 obtain ⟨q', g1, _, _, g4⟩ := mhP q.length 0 q (a + p.length) (by omega) (by omega) (by omega) hq
 refine ⟨p', q', Ev.bind e1 (Ev.bind g1 (Ev.now _)), ?_⟩
 refine Ev.bind e4 ?_
 simp only [if_neg (show ¬ a + (p.length : Int) < 0 by omega)]
 refine Ev.bind g4 ?_
 simp only [if_neg (show ¬ a + (p.length : Int) + 2 * (q.length : Int) < 0 by omega)]
 exact Ev.now _
theorem hld {F : Nat → Option Int} {G : Nat → Int → Option Int} {x r : Int} (h : Ev F x) (h0 : 0 ≤ x) (h2 : Ev (fun k => G k x) r) : Ev (fun k => (F k).bind fun t => if t < 0 then none else G k t) r := Ev.bind h (by simp only [if_neg (show ¬ x < 0 by omega)]; exact h2)
end Go.Proofs.Ytonhdiemjgdcnaa.PFnExactGivePage
namespace Go.Proofs.Ytonhdiemjgdcnaa.Own
open Go.RowKit Go.Proofs.YtonhdiemjgdcnaaW.PrintWords Go.Proofs.YtonhdiemjgdcnaaW.PrintLast Go.Proofs.YtonhdiemjgdcnaaW.PrintMore
theorem tagQ {α : Type} {d : Kd α} {f : Nat → Nat} {e base : Nat} {w : World} {ok : Nat → Prop} {v : Value} {xs : List α} (h : (Kd.tag f d).Q e w base ok v xs.zipIdx) : d.Q e w base ok v xs := by
 obtain ⟨h0, inner, ho, hr⟩ := h
 rw [List.length_zipIdx] at ho
 exact ⟨h0, inner, ho, by have := hr.1; rw [List.length_zipIdx] at this; exact this, fun j p hj => d.M_mono (fun _ hk => ⟨hk.1.1, hk.1.2⟩) (hr.2 j (p, j) (Kd.zip_at hj))⟩
def apair {α β : Type} (a : Kd α) (b : Kd β) : Kd (α × β) where
 sz := a.sz + b.sz
 E := a.E ++ b.E
 K := fun w x cs => ∃ c0 c1, cs = c0 ++ c1 ∧ a.K w x.1 c0 ∧ b.K w x.2 c1
 M := fun w base ok x cs => ∃ c0 c1, ∃ f : Nat → Bool, cs = c0 ++ c1 ∧ a.M w base (fun k => ok k ∧ f k = true) x.1 c0 ∧ b.M w base (fun k => ok k ∧ f k = false) x.2 c1
 K_len := by
  rintro w x cs ⟨c0, c1, rfl, h0, h1⟩
  rw [List.length_append, a.K_len h0, b.K_len h1]
 K_one := by
  rintro w x cs ⟨c0, c1, rfl, h0, h1⟩ u hu
  rcases List.mem_append.1 hu with hu | hu
  ·exact a.K_one h0 u hu
  ·exact b.K_one h1 u hu
 K_below := by
  rintro w w1 x cs hb ⟨c0, c1, rfl, h0, h1⟩
  exact ⟨c0, c1, rfl, a.K_below hb h0, b.K_below hb h1⟩
 K_of_M := by
  rintro w base ok x cs ⟨c0, c1, f, rfl, h0, h1⟩
  exact ⟨c0, c1, rfl, a.K_of_M h0, b.K_of_M h1⟩
 M_mono := by
  rintro w base ok ok' x cs hok ⟨c0, c1, f, rfl, h0, h1⟩
  exact ⟨c0, c1, f, rfl, a.M_mono (fun k hk => ⟨hok k hk.1, hk.2⟩) h0, b.M_mono (fun k hk => ⟨hok k hk.1, hk.2⟩) h1⟩
 M_bound := by
  rintro w base ok x cs ⟨c0, c1, f, rfl, h0, h1⟩
  refine ⟨c0, c1, f, rfl, a.M_mono ?_ (a.M_bound h0), b.M_mono ?_ (b.M_bound h1)⟩
  ·rintro k ⟨⟨h2, h2'⟩, h3, h4, q, hq, hc⟩
   exact ⟨⟨h2, h3, h4, q, List.mem_append_left _ hq, hc⟩, h2'⟩
  ·rintro k ⟨⟨h2, h2'⟩, h3, h4, q, hq, hc⟩
   exact ⟨⟨h2, h3, h4, q, List.mem_append_right _ hq, hc⟩, h2'⟩
 M_move := by
  rintro w w1 base ok x cs hm ⟨c0, c1, f, rfl, h0, h1⟩
  exact ⟨c0, c1, f, rfl, a.M_move (fun k hk => hm k hk.1) h0, b.M_move (fun k hk => hm k hk.1) h1⟩
 M_lower := by
  rintro w base base' ok x cs hb ⟨c0, c1, f, rfl, h0, h1⟩
  exact ⟨c0, c1, f, rfl, a.M_lower hb h0, b.M_lower hb h1⟩
def arow {α : Type} (e : Nat) (d : Kd α) : Kd (List α) where
 sz := 1
 E := e :: d.E
 K := fun w xs cs => ∃ A c, cs = [.slice A xs.length c] ∧ xs.length ≤ c ∧ d.C w A xs.length xs
 M := fun w base ok xs cs => ∃ v, ∃ f : Nat → Nat, cs = [v] ∧ (Kd.tag f d).Q e w base ok v xs.zipIdx
 K_len := by
  rintro w x cs ⟨A, c, rfl, _⟩
  rfl
 K_one := by
  rintro w x cs ⟨A, c, rfl, _⟩ u hu
  rw [List.mem_singleton.1 hu]
  rfl
 K_below := by
  rintro w w1 x cs hb ⟨A, c, rfl, hl, hr⟩
  exact ⟨A, c, rfl, hl, Kd.C_below hr hb⟩
 K_of_M := by
  rintro w base ok x cs ⟨v, f, rfl, h⟩
  obtain ⟨A, c, rfl, hl, hr⟩ := Kd.Q_reads (tagQ h)
  exact ⟨A, c, rfl, hl, hr⟩
 M_mono := by
  rintro w base ok ok' x cs hok ⟨v, f, rfl, h⟩
  exact ⟨v, f, rfl, Kd.Q_mono h hok⟩
 M_bound := by
  rintro w base ok x cs ⟨v, f, rfl, h⟩
  exact ⟨v, f, rfl, Kd.Q_bound h⟩
 M_move := by
  rintro w w1 base ok x cs hm ⟨v, f, rfl, h⟩
  exact ⟨v, f, rfl, Kd.Q_move h hm⟩
 M_lower := by
  rintro w base base' ok x cs hb ⟨v, f, rfl, h⟩
  exact ⟨v, f, rfl, Kd.Q_lower h hb⟩
theorem flatM {α : Type} {d : Kd α} (hE : d.E = []) {w : World} {base : Nat} {ok ok' : Nat → Prop} {x : α} {cs : List Value} (h : d.M w base ok x cs) : d.M w base ok' x cs :=
 d.M_mono (fun k hk => by
  obtain ⟨_, _, _, q, hq, _⟩ := hk
  rw [hE] at hq
  cases hq) (d.M_bound h)
theorem arow_of_Q {α : Type} {d : Kd α} (hE : d.E = []) {e base : Nat} {w : World} {ok : Nat → Prop} {v : Value} {xs : List α} (h : d.Q e w base ok v xs) : (arow e d).M w base ok xs [v] := by
 obtain ⟨h0, inner, ho, hr⟩ := h
 refine ⟨v, fun _ => 0, rfl, h0, inner, by rw [List.length_zipIdx]; exact ho, by rw [List.length_zipIdx]; exact hr.1, fun j p hj => ?_⟩
 rw [List.getElem?_zipIdx] at hj
 obtain ⟨a, ha, rfl⟩ := Option.map_eq_some_iff.1 hj
 exact flatM hE (hr.2 j a ha)
theorem arow_of_S {α : Type} {d : Kd α} {e base : Nat} {w : World} {ok : Nat → Prop} {v : Value} {xs : List α} (h : Kd.S d e w base ok v xs) : (arow e d).M w base ok xs [v] := by
 obtain ⟨f, h⟩ := h
 exact ⟨v, f, rfl, Kd.Q_of_R h⟩
def srow {α : Type} (e : Nat) (d : Kd α) : Kd (List α) where
 sz := 1
 E := e :: d.E
 K := fun w xs cs => ∃ A c, cs = [.slice A xs.length c] ∧ xs.length ≤ c ∧ d.C w A xs.length xs
 M := fun w base ok xs cs => ∃ v, cs = [v] ∧ Kd.S d e w base ok v xs
 K_len := by
  rintro w x cs ⟨A, c, rfl, _⟩
  rfl
 K_one := by
  rintro w x cs ⟨A, c, rfl, _⟩ u hu
  rw [List.mem_singleton.1 hu]
  rfl
 K_below := by
  rintro w w1 x cs hb ⟨A, c, rfl, hl, hr⟩
  exact ⟨A, c, rfl, hl, Kd.C_below hr hb⟩
 K_of_M := by
  rintro w base ok x cs ⟨v, rfl, h⟩
  obtain ⟨A, c, rfl, hl, hr⟩ := Kd.R_reads (Kd.S_R h)
  exact ⟨A, c, rfl, hl, hr⟩
 M_mono := by
  rintro w base ok ok' x cs hok ⟨v, rfl, h⟩
  exact ⟨v, rfl, Kd.S_mono h hok⟩
 M_bound := by
  rintro w base ok x cs ⟨v, rfl, h⟩
  exact ⟨v, rfl, Kd.S_bound h⟩
 M_move := by
  rintro w w1 base ok x cs hm ⟨v, rfl, h⟩
  exact ⟨v, rfl, Kd.S_move h hm⟩
 M_lower := by
  rintro w base base' ok x cs hb ⟨v, rfl, h⟩
  exact ⟨v, rfl, Kd.S_lower h hb⟩
theorem srow_of_R {α : Type} {d : Kd α} (hE : d.E = []) {e base : Nat} {w : World} {ok : Nat → Prop} {v : Value} {xs : List α} (h : d.R e w base ok v xs) : (srow e d).M w base (fun k => some k = v.ownBlock) xs [v] := by
 refine ⟨v, rfl, fun _ => 0, ?_⟩
 obtain ⟨h0, inner, ho, hr⟩ := Kd.R_tight hE h
 refine ⟨h0, inner, by rw [List.length_zipIdx]; exact ho, by rw [List.length_zipIdx]; exact hr.1, fun j p hj => ?_⟩
 rw [List.getElem?_zipIdx] at hj
 obtain ⟨a, ha, rfl⟩ := Option.map_eq_some_iff.1 hj
 exact flatM hE (hr.2 j a ha)
theorem Q_tight {α : Type} {d : Kd α} (hE : d.E = []) {e base : Nat} {w : World} {ok : Nat → Prop} {v : Value} {xs : List α} (h : d.Q e w base ok v xs) : d.Q e w base (fun k => some k = v.ownBlock) v xs := by
 obtain ⟨h0, inner, ho, hr⟩ := h
 exact ⟨fun k hk => hk.symm, inner, ho, hr.imp_ (fun p c hp => flatM hE hp)⟩
open Classical in
theorem apair_mk {α β : Type} {a : Kd α} {b : Kd β} {w : World} {base : Nat} {ok okA okB : Nat → Prop} {x : α} {y : β} {c0 c1 : List Value} (ha : a.M w base okA x c0) (hb : b.M w base okB y c1) (hA : ∀ k, okA k → ok k) (hB : ∀ k, okB k → ok k) (hd : ∀ k, okA k → ¬ okB k) :
  (apair a b).M w base ok (x, y) (c0 ++ c1) := by
 refine ⟨c0, c1, fun k => decide (okA k), rfl, a.M_mono (fun k hk => ⟨hA k hk, decide_eq_true hk⟩) ha, b.M_mono (fun k hk => ⟨hB k hk, decide_eq_false (fun h => hd k h hk)⟩) hb⟩
theorem apair_open {α β : Type} {a : Kd α} {b : Kd β} {w : World} {base : Nat} {ok : Nat → Prop} {x : α} {y : β} {cs : List Value} (h : (apair a b).M w base ok (x, y) cs) :
  ∃ c0 c1, ∃ okA okB : Nat → Prop, cs = c0 ++ c1 ∧ a.M w base okA x c0 ∧ b.M w base okB y c1 ∧ (∀ k, okA k → ok k) ∧ (∀ k, okB k → ok k) ∧ (∀ k, okA k → ¬ okB k) := by
 obtain ⟨c0, c1, f, rfl, ha, hb⟩ := h
 exact ⟨c0, c1, _, _, rfl, ha, hb, fun k hk => hk.1, fun k hk => hk.1, fun k hk h2 => by have h1 := hk.2; rw [h2.2] at h1; cases h1⟩
theorem R_tightB {α : Type} {d : Kd α} (hE : d.E = []) {e base : Nat} {w : World} {ok : Nat → Prop} {v : Value} {xs : List α} (h : d.R e w base ok v xs) : d.R e w base (fun k => some k = v.ownBlock) v xs ∧ (∀ k, some k = v.ownBlock → base ≤ k ∧ k < w.heap.size) ∧ (∀ k, some k = v.ownBlock → ∃ cells, w.heap[k]? = some (.cells cells e (0, 0))) :=
 ⟨Kd.R_tight hE h, fun k hk => ⟨Kd.R_base h k hk.symm, Kd.R_lt h k hk.symm⟩, fun k hk => Kd.R_typed h k hk.symm⟩
theorem types_ne {w : World} {p q : Nat → Prop} {e e' : Nat} (h : ∀ k, p k → ∃ cells, w.heap[k]? = some (.cells cells e (0, 0))) (h' : ∀ k, q k → ∃ cells, w.heap[k]? = some (.cells cells e' (0, 0))) (hn : e ≠ e') : ∀ k, p k → ¬ q k := by
 intro k hp hq
 obtain ⟨c, hc⟩ := h k hp
 obtain ⟨c', hc'⟩ := h' k hq
 rw [hc] at hc'
 injection hc' with hc'
 injection hc' with _ hc'
 exact hn hc'
theorem R_tight2 {α : Type} {d : Kd α} (hE : d.E = []) {e base : Nat} {w : World} {ok P : Nat → Prop} {v : Value} {xs : List α} (h : d.R e w base ok v xs) (hP : ∀ k, v.ownBlock = some k → P k) : d.R e w base P v xs := Kd.R_mono (Kd.R_tight hE h) (fun k hk => hP k hk.symm)
theorem Q_tight2 {α : Type} {d : Kd α} (hE : d.E = []) {e base : Nat} {w : World} {ok P : Nat → Prop} {v : Value} {xs : List α} (h : d.Q e w base ok v xs) (hP : ∀ k, v.ownBlock = some k → P k) : d.Q e w base P v xs := Kd.Q_mono (Q_tight hE h) (fun k hk => hP k hk.symm)
theorem below_more {w0 w : World} (h : Below w0.heap.size w0 w) (o : Obj) : Below w0.heap.size w0 (w.alloc o) := below_alloc h o
end Go.Proofs.Ytonhdiemjgdcnaa.Own
namespace Go.Proofs.Ytonhdiemjgdcnaa.PFnExactGivePage
open Go.RowKit Go.Proofs.YtonhdiemjgdcnaaW.PrintWords Go.Proofs.YtonhdiemjgdcnaaW.PrintLast Go.Proofs.YtonhdiemjgdcnaaW.PrintMore
attribute [local go_sem] max2_int min2_int max_two min_two max_three min_three max_four min_four
theorem info118 : (Try.prog.info? 118).map (fun i => (i.zero, i.size, i.bytes)) = some (some (.agg #[(.int .i64 0), (.int .i64 0), (.int .i64 0), (.int .i64 0), (.slice none 0 0)]), 5, 56) := by kernel_rfl
theorem info122 : (Try.prog.info? 122).map (fun i => (i.zero, i.size, i.bytes)) = some (some (.agg #[(.int .i64 0), (.slice none 0 0)]), 2, 32) := by kernel_rfl
structure S122 where
 f0 : Int
 f1 : (List Int)
def z122 : S122 := ⟨(0 : Int), ([] : List Int)⟩
def k122 : Kd S122 := Kd.iso (Kd.pair (Kd.int .i64) (Kd.slice 3 (Kd.int .i64))) (fun x : S122 => (x.f0, x.f1))
theorem k122_open {w : World} {x : S122} {cs : List Value} (h : k122.K w x cs) : ∃ A1 c1, cs = [.int .i64 x.f0, .slice A1 x.f1.length c1] ∧ x.f1.length ≤ c1 ∧ (Kd.int .i64).C w A1 x.f1.length x.f1 := by
 obtain ⟨_, _, rfl, rfl, ⟨A1, c1, rfl, l1, g1⟩⟩ := h
 exact ⟨A1, c1, rfl, l1, g1⟩
theorem k122_openM {w : World} {base : Nat} {ok : Nat → Prop} {x : S122} {cs : List Value} (h : k122.M w base ok x cs) : ∃ v1, cs = [.int .i64 x.f0, v1] ∧ (Kd.int .i64).R 3 w base ok v1 x.f1 := by
 obtain ⟨_, _, rfl, rfl, ⟨v1, rfl, g1⟩⟩ := h
 exact ⟨v1, rfl, g1⟩
theorem k122_mkM (w : World) (base : Nat) (ok : Nat → Prop) (x : S122) {v1 : Value} (g1 : (Kd.int .i64).R 3 w base ok v1 x.f1) : k122.M w base ok x [.int .i64 x.f0, v1] := ⟨[.int .i64 x.f0], [v1], rfl, rfl, ⟨v1, rfl, g1⟩⟩
def rd_T122 (xs : List S122) (i : Int) : S122 := xs.getD i.toNat z122
theorem at_T122 {w : World} {A : Option Addr} {n : Nat} {xs : List S122} (h : Kd.C k122 w A n xs) (i : Int) (h0 : 0 ≤ i) (h1 : i < n) : ∃ ad A1 c1, A = some ad ∧ w.cell? (ad.add (i.toNat * 2)) = some (.int .i64 (rd_T122 xs i).f0) ∧ w.cell? ⟨(ad.add (i.toNat * 2)).block, (ad.add (i.toNat * 2)).off + 1, none⟩ = some (.slice A1 (rd_T122 xs i).f1.length c1) ∧ (rd_T122 xs i).f1.length ≤ c1 ∧ (Kd.int .i64).C w A1 (rd_T122 xs i).f1.length (rd_T122 xs i).f1 := by
 obtain ⟨ad, c, e, _, hK, hc0⟩ := Kd.C_get h z122 i h0 h1
 have hc : ∀ j u, c[j]? = some u → w.cell? (ad.add (i.toNat * 2 + j)) = some u := hc0
 obtain ⟨A1, c1, rfl, l1, g1⟩ := k122_open hK
 exact ⟨ad, A1, c1, e, hc 0 _ rfl, by rw [← add_field _ _ 1 (by omega)]; exact hc 1 _ rfl, l1, g1⟩
structure S53 where
 f0 : Int
 f1 : Int
 f2 : Int
 f3 : (List S122)
def z53 : S53 := ⟨(0 : Int), (0 : Int), (0 : Int), ([] : List S122)⟩
def k53 : Kd S53 := Kd.iso (Kd.pair (Kd.int .i64) (Kd.pair (Kd.int .i64) (Kd.pair (Kd.int .i64) (Own.srow 122 k122)))) (fun x : S53 => (x.f0, x.f1, x.f2, x.f3))
theorem k53_open {w : World} {x : S53} {cs : List Value} (h : k53.K w x cs) : ∃ A3 c3, cs = [.int .i64 x.f0, .int .i64 x.f1, .int .i64 x.f2, .slice A3 x.f3.length c3] ∧ x.f3.length ≤ c3 ∧ k122.C w A3 x.f3.length x.f3 := by
 obtain ⟨_, _, rfl, rfl, ⟨_, _, rfl, rfl, ⟨_, _, rfl, rfl, ⟨A3, c3, rfl, l3, g3⟩⟩⟩⟩ := h
 exact ⟨A3, c3, rfl, l3, g3⟩
theorem k53_openM {w : World} {base : Nat} {ok : Nat → Prop} {x : S53} {cs : List Value} (h : k53.M w base ok x cs) : ∃ v3, cs = [.int .i64 x.f0, .int .i64 x.f1, .int .i64 x.f2, v3] ∧ Kd.S k122 122 w base ok v3 x.f3 := by
 obtain ⟨_, _, rfl, rfl, ⟨_, _, rfl, rfl, ⟨_, _, rfl, rfl, ⟨v3, rfl, g3⟩⟩⟩⟩ := h
 exact ⟨v3, rfl, g3⟩
theorem k53_mk (w : World) (x : S53) {A3 : Option Addr} {c3 : Nat} (l3 : x.f3.length ≤ c3) (g3 : k122.C w A3 x.f3.length x.f3) : k53.K w x [.int .i64 x.f0, .int .i64 x.f1, .int .i64 x.f2, .slice A3 x.f3.length c3] := ⟨[.int .i64 x.f0], [.int .i64 x.f1, .int .i64 x.f2, .slice A3 x.f3.length c3], rfl, rfl, ⟨[.int .i64 x.f1], [.int .i64 x.f2, .slice A3 x.f3.length c3], rfl, rfl, ⟨[.int .i64 x.f2], [.slice A3 x.f3.length c3], rfl, rfl, ⟨A3, c3, rfl, l3, g3⟩⟩⟩⟩
theorem k53_mkM (w : World) (base : Nat) (ok : Nat → Prop) (x : S53) {v3 : Value} (g3 : Kd.S k122 122 w base ok v3 x.f3) : k53.M w base ok x [.int .i64 x.f0, .int .i64 x.f1, .int .i64 x.f2, v3] := ⟨[.int .i64 x.f0], [.int .i64 x.f1, .int .i64 x.f2, v3], rfl, rfl, ⟨[.int .i64 x.f1], [.int .i64 x.f2, v3], rfl, rfl, ⟨[.int .i64 x.f2], [v3], rfl, rfl, ⟨v3, rfl, g3⟩⟩⟩⟩
structure S118 where
 f0 : Int
 f1 : S53
def z118 : S118 := ⟨(0 : Int), z53⟩
def k118 : Kd S118 := Kd.iso (Kd.pair (Kd.int .i64) k53) (fun x : S118 => (x.f0, x.f1))
theorem k118_open {w : World} {x : S118} {cs : List Value} (h : k118.K w x cs) : ∃ A4 c4, cs = [.int .i64 x.f0, .int .i64 x.f1.f0, .int .i64 x.f1.f1, .int .i64 x.f1.f2, .slice A4 x.f1.f3.length c4] ∧ x.f1.f3.length ≤ c4 ∧ k122.C w A4 x.f1.f3.length x.f1.f3 := by
 obtain ⟨_, _, rfl, rfl, s1⟩ := h
 obtain ⟨A4, c4, rfl, l4, g4⟩ := k53_open s1
 exact ⟨A4, c4, rfl, l4, g4⟩
theorem k118_openM {w : World} {base : Nat} {ok : Nat → Prop} {x : S118} {cs : List Value} (h : k118.M w base ok x cs) : ∃ v4, cs = [.int .i64 x.f0, .int .i64 x.f1.f0, .int .i64 x.f1.f1, .int .i64 x.f1.f2, v4] ∧ Kd.S k122 122 w base ok v4 x.f1.f3 := by
 obtain ⟨_, _, rfl, rfl, s1⟩ := h
 obtain ⟨v4, rfl, g4⟩ := k53_openM s1
 exact ⟨v4, rfl, g4⟩
theorem k118_mkM (w : World) (base : Nat) (ok : Nat → Prop) (x : S118) {v4 : Value} (g4 : Kd.S k122 122 w base ok v4 x.f1.f3) : k118.M w base ok x [.int .i64 x.f0, .int .i64 x.f1.f0, .int .i64 x.f1.f1, .int .i64 x.f1.f2, v4] := ⟨[.int .i64 x.f0], [.int .i64 x.f1.f0, .int .i64 x.f1.f1, .int .i64 x.f1.f2, v4], rfl, rfl, (k53_mkM w base ok x.f1 g4)⟩
def rd_T118 (xs : List S118) (i : Int) : S118 := xs.getD i.toNat z118
theorem at_T118 {w : World} {A : Option Addr} {n : Nat} {xs : List S118} (h : Kd.C k118 w A n xs) (i : Int) (h0 : 0 ≤ i) (h1 : i < n) : ∃ ad A4 c4, A = some ad ∧ w.cell? (ad.add (i.toNat * 5)) = some (.int .i64 (rd_T118 xs i).f0) ∧ w.cell? ⟨(ad.add (i.toNat * 5)).block, (ad.add (i.toNat * 5)).off + 1, none⟩ = some (.int .i64 (rd_T118 xs i).f1.f0) ∧ w.cell? ⟨(ad.add (i.toNat * 5)).block, (ad.add (i.toNat * 5)).off + 2, none⟩ = some (.int .i64 (rd_T118 xs i).f1.f1) ∧ w.cell? ⟨(ad.add (i.toNat * 5)).block, (ad.add (i.toNat * 5)).off + 3, none⟩ = some (.int .i64 (rd_T118 xs i).f1.f2) ∧ w.cell? ⟨(ad.add (i.toNat * 5)).block, (ad.add (i.toNat * 5)).off + 4, none⟩ = some (.slice A4 (rd_T118 xs i).f1.f3.length c4) ∧ (rd_T118 xs i).f1.f3.length ≤ c4 ∧ k122.C w A4 (rd_T118 xs i).f1.f3.length (rd_T118 xs i).f1.f3 := by
 obtain ⟨ad, c, e, _, hK, hc0⟩ := Kd.C_get h z118 i h0 h1
 have hc : ∀ j u, c[j]? = some u → w.cell? (ad.add (i.toNat * 5 + j)) = some u := hc0
 obtain ⟨A4, c4, rfl, l4, g4⟩ := k118_open hK
 exact ⟨ad, A4, c4, e, hc 0 _ rfl, by rw [← add_field _ _ 1 (by omega)]; exact hc 1 _ rfl, by rw [← add_field _ _ 2 (by omega)]; exact hc 2 _ rfl, by rw [← add_field _ _ 3 (by omega)]; exact hc 3 _ rfl, by rw [← add_field _ _ 4 (by omega)]; exact hc 4 _ rfl, l4, g4⟩
structure S183 where
 f0 : Int
 f1 : (List Int)
def z183 : S183 := ⟨(0 : Int), ([] : List Int)⟩
def k183 : Kd S183 := Kd.iso (Kd.pair (Kd.int .i64) (Kd.slice 3 (Kd.int .i64))) (fun x : S183 => (x.f0, x.f1))
theorem k183_open {w : World} {x : S183} {cs : List Value} (h : k183.K w x cs) : ∃ A1 c1, cs = [.int .i64 x.f0, .slice A1 x.f1.length c1] ∧ x.f1.length ≤ c1 ∧ (Kd.int .i64).C w A1 x.f1.length x.f1 := by
 obtain ⟨_, _, rfl, rfl, ⟨A1, c1, rfl, l1, g1⟩⟩ := h
 exact ⟨A1, c1, rfl, l1, g1⟩
def rd_T183 (xs : List S183) (i : Int) : S183 := xs.getD i.toNat z183
theorem at_T183 {w : World} {A : Option Addr} {n : Nat} {xs : List S183} (h : Kd.C k183 w A n xs) (i : Int) (h0 : 0 ≤ i) (h1 : i < n) : ∃ ad A1 c1, A = some ad ∧ w.cell? (ad.add (i.toNat * 2)) = some (.int .i64 (rd_T183 xs i).f0) ∧ w.cell? ⟨(ad.add (i.toNat * 2)).block, (ad.add (i.toNat * 2)).off + 1, none⟩ = some (.slice A1 (rd_T183 xs i).f1.length c1) ∧ (rd_T183 xs i).f1.length ≤ c1 ∧ (Kd.int .i64).C w A1 (rd_T183 xs i).f1.length (rd_T183 xs i).f1 := by
 obtain ⟨ad, c, e, _, hK, hc0⟩ := Kd.C_get h z183 i h0 h1
 have hc : ∀ j u, c[j]? = some u → w.cell? (ad.add (i.toNat * 2 + j)) = some u := hc0
 obtain ⟨A1, c1, rfl, l1, g1⟩ := k183_open hK
 exact ⟨ad, A1, c1, e, hc 0 _ rfl, by rw [← add_field _ _ 1 (by omega)]; exact hc 1 _ rfl, l1, g1⟩
structure S69 where
 f0 : Int
 f1 : Int
 f2 : Int
 f3 : (List S183)
def z69 : S69 := ⟨(0 : Int), (0 : Int), (0 : Int), ([] : List S183)⟩
def k69 : Kd S69 := Kd.iso (Kd.pair (Kd.int .i64) (Kd.pair (Kd.int .i64) (Kd.pair (Kd.int .i64) (Kd.slice 183 k183)))) (fun x : S69 => (x.f0, x.f1, x.f2, x.f3))
theorem k69_open {w : World} {x : S69} {cs : List Value} (h : k69.K w x cs) : ∃ A3 c3, cs = [.int .i64 x.f0, .int .i64 x.f1, .int .i64 x.f2, .slice A3 x.f3.length c3] ∧ x.f3.length ≤ c3 ∧ k183.C w A3 x.f3.length x.f3 := by
 obtain ⟨_, _, rfl, rfl, ⟨_, _, rfl, rfl, ⟨_, _, rfl, rfl, ⟨A3, c3, rfl, l3, g3⟩⟩⟩⟩ := h
 exact ⟨A3, c3, rfl, l3, g3⟩
structure S154 where
 f0 : Int
 f1 : S69
def z154 : S154 := ⟨(0 : Int), z69⟩
def k154 : Kd S154 := Kd.iso (Kd.pair (Kd.int .i64) k69) (fun x : S154 => (x.f0, x.f1))
theorem k154_open {w : World} {x : S154} {cs : List Value} (h : k154.K w x cs) : ∃ A4 c4, cs = [.int .i64 x.f0, .int .i64 x.f1.f0, .int .i64 x.f1.f1, .int .i64 x.f1.f2, .slice A4 x.f1.f3.length c4] ∧ x.f1.f3.length ≤ c4 ∧ k183.C w A4 x.f1.f3.length x.f1.f3 := by
 obtain ⟨_, _, rfl, rfl, s1⟩ := h
 obtain ⟨A4, c4, rfl, l4, g4⟩ := k69_open s1
 exact ⟨A4, c4, rfl, l4, g4⟩
def rd_T154 (xs : List S154) (i : Int) : S154 := xs.getD i.toNat z154
theorem at_T154 {w : World} {A : Option Addr} {n : Nat} {xs : List S154} (h : Kd.C k154 w A n xs) (i : Int) (h0 : 0 ≤ i) (h1 : i < n) : ∃ ad A4 c4, A = some ad ∧ w.cell? (ad.add (i.toNat * 5)) = some (.int .i64 (rd_T154 xs i).f0) ∧ w.cell? ⟨(ad.add (i.toNat * 5)).block, (ad.add (i.toNat * 5)).off + 1, none⟩ = some (.int .i64 (rd_T154 xs i).f1.f0) ∧ w.cell? ⟨(ad.add (i.toNat * 5)).block, (ad.add (i.toNat * 5)).off + 2, none⟩ = some (.int .i64 (rd_T154 xs i).f1.f1) ∧ w.cell? ⟨(ad.add (i.toNat * 5)).block, (ad.add (i.toNat * 5)).off + 3, none⟩ = some (.int .i64 (rd_T154 xs i).f1.f2) ∧ w.cell? ⟨(ad.add (i.toNat * 5)).block, (ad.add (i.toNat * 5)).off + 4, none⟩ = some (.slice A4 (rd_T154 xs i).f1.f3.length c4) ∧ (rd_T154 xs i).f1.f3.length ≤ c4 ∧ k183.C w A4 (rd_T154 xs i).f1.f3.length (rd_T154 xs i).f1.f3 := by
 obtain ⟨ad, c, e, _, hK, hc0⟩ := Kd.C_get h z154 i h0 h1
 have hc : ∀ j u, c[j]? = some u → w.cell? (ad.add (i.toNat * 5 + j)) = some u := hc0
 obtain ⟨A4, c4, rfl, l4, g4⟩ := k154_open hK
 exact ⟨ad, A4, c4, e, hc 0 _ rfl, by rw [← add_field _ _ 1 (by omega)]; exact hc 1 _ rfl, by rw [← add_field _ _ 2 (by omega)]; exact hc 2 _ rfl, by rw [← add_field _ _ 3 (by omega)]; exact hc 3 _ rfl, by rw [← add_field _ _ 4 (by omega)]; exact hc 4 _ rfl, l4, g4⟩
def laws_toFree.f (k : Nat) (a0_0 : Int) (l0_1 : List Int) : Option (Int × List Int) := (laws_toIntS.f k l0_1).bind fun t277 => (some (a0_0, t277))
theorem laws_toFree.calls (k : Nat) (a0_0 : Int) (A0_1 : Option Addr) (c0_1 : Nat) (l0_1 : List Int) (r1 : Int) (r2 : List Int) (w : World) (hr0_1 : Kd.C (Kd.int .i64) w A0_1 l0_1.length l0_1) (hc0_1 : l0_1.length ≤ c0_1) (h : laws_toFree.f k a0_0 l0_1 = some (r1, r2)) :
  Calls Try.prog 159 #[.agg #[.int .i64 a0_0, .slice A0_1 l0_1.length c0_1]] w fun e w' => ∃ v1_ : Value, e = .returned (.agg #[.int .i64 r1, v1_]) ∧ Kd.R (Kd.int .i64) 3 w' w.heap.size (fun _ => True) v1_ r2 ∧ Below w.heap.size w w' := by
 have hu183 := Try.underlying183
 have hu122 := Try.underlying122
 have HR0_1 := Aside0.mk hr0_1
 have HC0_1 := Aside0.mk hc0_1
 clear hr0_1 hc0_1
 have HB := Aside0.mk (Below.refl w.heap.size w)
 have H : ((laws_toIntS.f k l0_1).bind fun t277 => (some (a0_0, t277))) = some (r1, r2) := h
 clear h
 replace H := Option.bind_eq_some_iff.mp H
 obtain ⟨t277, A20, H⟩ := H
 replace H : (some (a0_0, t277)) = some (r1, r2) := H
 have A2 := Aside0.mk A20
 clear A20
 simp only [Option.some.injEq, Prod.mk.injEq] at H
 obtain ⟨rfl, rfl⟩ := H
 go_enter Try.func159, Try.ntmps159
 go_wp2_with (first | ((with_reducible refine gate_dst (N := 1) rfl ?_); refine box_event ?hg (N := 1) ?hd (cs := #[.int .i64 a0_0, .slice A0_1 l0_1.length c0_1]) (t := 183) ?hr ?_; (case hd => rfl); (case hg => rfl); (case hr => first | (go_simp; done) | (go_simp; rfl)); intro gb274 hg w3 hbox hb; have n0_ := Aside0.mk (below_step (by repeat (first | (with_reducible first | exact HB.out | apply below_alloc | apply pw_below_drewN | apply below_drew1) | exact HB.out)) hb); have n1_ := Aside0.mk (hbox); have n2_ := Aside0.mk ((by rw [hg]; exact (below_size (by repeat (first | (with_reducible first | exact HB.out | apply below_alloc | apply pw_below_drewN | apply below_drew1) | exact HB.out))) : w.heap.size ≤ gb274)); have n3_ := Aside0.mk ((by rw [hg]; exact (below_size (by repeat (first | (with_reducible first | exact HB.out | apply below_alloc | apply pw_below_drewN | apply below_drew1) | exact HB.out))) : w.heap.size ≤ gb274)); clear HB; have HB := n0_; have BK274 := n1_; have GW274 := n2_; have GE274 := n3_; clear n0_ n1_ n2_ n3_; clear hb hbox hg) | ((with_reducible refine gate_dst (N := 2) rfl ?_); refine box_event ?hg (N := 2) ?hd (cs := #[.int .i64 0, .slice none 0 0]) (t := 122) ?hr ?_; (case hd => rfl); (case hg => rfl); (case hr => first | (go_simp; done) | (go_simp; rfl)); intro gb275 hg w4 hbox hb; have n0_ := Aside0.mk (blk_below (g := gb274) (o := .cells #[.int .i64 a0_0, .slice A0_1 l0_1.length c0_1] 183 (0, 0)) (by (with_reducible repeat (first | refine blk_drewN ?_ _ | refine blk_drew ?_ | refine blk_alloc ?_ _)); exact BK274.out) hb); have n1_ := Aside0.mk (below_step (by repeat (first | (with_reducible first | exact HB.out | apply below_alloc | apply pw_below_drewN | apply below_drew1 | refine below_set ?_ GE274.out) | exact HB.out)) hb); have n2_ := Aside0.mk (hbox); have n3_ := Aside0.mk ((by rw [hg]; exact (below_size (by repeat (first | (with_reducible first | exact HB.out | apply below_alloc | apply pw_below_drewN | apply below_drew1 | refine below_set ?_ GE274.out) | exact HB.out))) : w.heap.size ≤ gb275)); have n4_ := Aside0.mk ((by rw [hg]; exact (below_size (by repeat (first | (with_reducible first | exact HB.out | apply below_alloc | apply pw_below_drewN | apply below_drew1 | refine below_set ?_ GE274.out) | exact HB.out))) : w.heap.size ≤ gb275)); have n5_ := Aside0.mk ((by rw [hg]; exact Nat.ne_of_lt (blk_lt (g := gb274) (o := .cells #[.int .i64 a0_0, .slice A0_1 l0_1.length c0_1] 183 (0, 0)) (by (with_reducible repeat (first | refine blk_drewN ?_ _ | refine blk_drew ?_ | refine blk_alloc ?_ _)); exact BK274.out)) : gb274 ≠ gb275)); have n6_ := Aside0.mk ((by rw [hg]; exact Nat.ne_of_gt (blk_lt (g := gb274) (o := .cells #[.int .i64 a0_0, .slice A0_1 l0_1.length c0_1] 183 (0, 0)) (by (with_reducible repeat (first | refine blk_drewN ?_ _ | refine blk_drew ?_ | refine blk_alloc ?_ _)); exact BK274.out)) : gb275 ≠ gb274)); clear BK274; clear HB; have BK274 := n0_; have HB := n1_; have BK275 := n2_; have GW275 := n3_; have GE275 := n4_; have NB274_275 := n5_; have NB275_274 := n6_; clear n0_ n1_ n2_ n3_ n4_ n5_ n6_; clear hb hbox hg) | ((with_reducible refine gate_dst (N := 3) rfl ?_); refine box_event ?hg (N := 3) ?hd (cs := #[.int .i64 0, .slice none 0 0]) (t := 122) ?hr ?_; (case hd => rfl); (case hg => rfl); (case hr => first | (go_simp; done) | (go_simp; rfl)); intro gb276 hg w5 hbox hb; have n0_ := Aside0.mk (blk_below (g := gb274) (o := .cells #[.int .i64 a0_0, .slice A0_1 l0_1.length c0_1] 183 (0, 0)) (by (with_reducible repeat (first | refine blk_drewN ?_ _ | refine blk_drew ?_ | refine blk_alloc ?_ _)); exact BK274.out) hb); have n1_ := Aside0.mk (blk_below (g := gb275) (o := .cells #[.int .i64 0, .slice none 0 0] 122 (0, 0)) (by (with_reducible repeat (first | refine blk_drewN ?_ _ | refine blk_drew ?_ | refine blk_alloc ?_ _)); exact BK275.out) hb); have n2_ := Aside0.mk (below_step (by repeat (first | (with_reducible first | exact HB.out | apply below_alloc | apply pw_below_drewN | apply below_drew1 | refine below_set ?_ GE274.out | refine below_set ?_ GE275.out) | exact HB.out)) hb); have n3_ := Aside0.mk (hbox); have n4_ := Aside0.mk ((by rw [hg]; exact (below_size (by repeat (first | (with_reducible first | exact HB.out | apply below_alloc | apply pw_below_drewN | apply below_drew1 | refine below_set ?_ GE274.out | refine below_set ?_ GE275.out) | exact HB.out))) : w.heap.size ≤ gb276)); have n5_ := Aside0.mk ((by rw [hg]; exact (below_size (by repeat (first | (with_reducible first | exact HB.out | apply below_alloc | apply pw_below_drewN | apply below_drew1 | refine below_set ?_ GE274.out | refine below_set ?_ GE275.out) | exact HB.out))) : w.heap.size ≤ gb276)); have n6_ := Aside0.mk ((by rw [hg]; exact Nat.ne_of_lt (blk_lt (g := gb274) (o := .cells #[.int .i64 a0_0, .slice A0_1 l0_1.length c0_1] 183 (0, 0)) (by (with_reducible repeat (first | refine blk_drewN ?_ _ | refine blk_drew ?_ | refine blk_alloc ?_ _)); exact BK274.out)) : gb274 ≠ gb276)); have n7_ := Aside0.mk ((by rw [hg]; exact Nat.ne_of_gt (blk_lt (g := gb274) (o := .cells #[.int .i64 a0_0, .slice A0_1 l0_1.length c0_1] 183 (0, 0)) (by (with_reducible repeat (first | refine blk_drewN ?_ _ | refine blk_drew ?_ | refine blk_alloc ?_ _)); exact BK274.out)) : gb276 ≠ gb274)); have n8_ := Aside0.mk ((by rw [hg]; exact Nat.ne_of_lt (blk_lt (g := gb275) (o := .cells #[.int .i64 0, .slice none 0 0] 122 (0, 0)) (by (with_reducible repeat (first | refine blk_drewN ?_ _ | refine blk_drew ?_ | refine blk_alloc ?_ _)); exact BK275.out)) : gb275 ≠ gb276)); have n9_ := Aside0.mk ((by rw [hg]; exact Nat.ne_of_gt (blk_lt (g := gb275) (o := .cells #[.int .i64 0, .slice none 0 0] 122 (0, 0)) (by (with_reducible repeat (first | refine blk_drewN ?_ _ | refine blk_drew ?_ | refine blk_alloc ?_ _)); exact BK275.out)) : gb276 ≠ gb275)); clear BK274; clear BK275; clear HB; have BK274 := n0_; have BK275 := n1_; have HB := n2_; have BK276 := n3_; have GW276 := n4_; have GE276 := n5_; have NB274_276 := n6_; have NB276_274 := n7_; have NB275_276 := n8_; have NB276_275 := n9_; clear n0_ n1_ n2_ n3_ n4_ n5_ n6_ n7_ n8_ n9_; clear hb hbox hg; have hnb6 := NB274_275.out; have hnc6 := NB275_274.out; have hnb7 := NB274_276.out; have hnc7 := NB276_274.out; have hcz8_0 : w5.cell? ⟨gb274, 0, none⟩ = some (.int .i64 a0_0) := (blk_cell BK274.out 0).trans rfl; have hcz8_1 : w5.cell? ⟨gb274, 1, none⟩ = some (.slice A0_1 l0_1.length c0_1) := (blk_cell BK274.out 1).trans rfl; have hfz8_0 := blk_frozen BK274.out 0; have hfz8_1 := blk_frozen BK274.out 1; have hnb9 := NB276_275.out; have hnc9 := NB275_276.out; have hcz10_0 : w5.cell? ⟨gb276, 0, none⟩ = some (.int .i64 0) := (blk_cell BK276.out 0).trans rfl; have hcz10_1 : w5.cell? ⟨gb276, 1, none⟩ = some (.slice none 0 0) := (blk_cell BK276.out 1).trans rfl; have hfz10_0 := blk_frozen BK276.out 0; have hfz10_1 := blk_frozen BK276.out 1) | ((with_reducible refine gate_callee (f := 48) rfl ?_); refine goesL_ (some 9) rfl rfl Try.func48 (by kernel_rfl) rfl #[.slice A0_1 l0_1.length c0_1] rfl (by (try simp only [List.map_toArray, List.map_cons, List.map_nil]); first | done | rfl | (simp only [List.length_drop, List.length_take]; rfl)) ?_; (with_reducible refine (laws_toIntS.calls k _ _ l0_1 t277 _ ?side1 ?side2 A2.out).mono ?_); (case side1 => exact Kd.C_below HR0_1.out (by repeat (first | (with_reducible first | exact HB.out | apply below_alloc | apply pw_below_drewN | apply below_drew1 | refine below_set ?_ GE274.out | refine below_set ?_ GE275.out | refine below_set ?_ GE276.out) | exact HB.out))); (case side2 => exact HC0_1.out); rintro e w11 ⟨v278, rfl, ho0, hb⟩; refine ⟨_, rfl, ?_⟩; (first | have rs_v278 := one_store (P := Try.prog) ho0 | have rs_v278 := one_store (P := Try.prog) (Kd.S_R ho0) | skip); have n0_ := Aside0.mk (Kd.R_lower ho0 (below_size (by repeat (first | (with_reducible first | exact HB.out | apply below_alloc | apply pw_below_drewN | apply below_drew1 | refine below_set ?_ GE274.out | refine below_set ?_ GE275.out | refine below_set ?_ GE276.out) | exact HB.out)))); have n1_ := Aside0.mk (blk_below (g := gb274) (o := .cells #[.int .i64 a0_0, .slice A0_1 l0_1.length c0_1] 183 (0, 0)) (by (with_reducible repeat (first | refine blk_drewN ?_ _ | refine blk_drew ?_ | refine blk_alloc ?_ _)); refine blk_far ?_ NB274_276.out _; (with_reducible repeat (first | refine blk_drewN ?_ _ | refine blk_drew ?_ | refine blk_alloc ?_ _)); exact BK274.out) hb); have n2_ := Aside0.mk (blk_below (g := gb275) (o := .cells #[.int .i64 0, .slice none 0 0] 122 (0, 0)) (by (with_reducible repeat (first | refine blk_drewN ?_ _ | refine blk_drew ?_ | refine blk_alloc ?_ _)); refine blk_far ?_ NB275_276.out _; (with_reducible repeat (first | refine blk_drewN ?_ _ | refine blk_drew ?_ | refine blk_alloc ?_ _)); exact BK275.out) hb); have n3_ := Aside0.mk (blk_below (g := gb276) (o := .cells #[.int .i64 a0_0, .slice none 0 0] 122 (0, 0)) (by (with_reducible repeat (first | refine blk_drewN ?_ _ | refine blk_drew ?_ | refine blk_alloc ?_ _)); refine blk_put (cs := #[.int .i64 0, .slice none 0 0]) ?_ 0 _ rfl; (with_reducible repeat (first | refine blk_drewN ?_ _ | refine blk_drew ?_ | refine blk_alloc ?_ _)); exact BK276.out) hb); have n4_ := Aside0.mk (below_step (by repeat (first | (with_reducible first | exact HB.out | apply below_alloc | apply pw_below_drewN | apply below_drew1 | refine below_set ?_ GE274.out | refine below_set ?_ GE275.out | refine below_set ?_ GE276.out) | exact HB.out)) hb); clear BK274; clear BK275; clear BK276; clear HB; have HO279 := n0_; have BK274 := n1_; have BK275 := n2_; have BK276 := n3_; have HB := n4_; clear n0_ n1_ n2_ n3_ n4_; (try clear hb); (try clear hb2); (try clear hk); (try clear hi); (try clear ho0); obtain ⟨Ao12, co12, eo12⟩ := Kd.R_slice HO279.out; subst eo12; have hcz13_0 : w11.cell? ⟨gb276, 0, none⟩ = some (.int .i64 a0_0) := (blk_cell BK276.out 0).trans rfl; have hcz13_1 : w11.cell? ⟨gb276, 1, none⟩ = some (.slice none 0 0) := (blk_cell BK276.out 1).trans rfl; have hfz13_0 := blk_frozen BK276.out 0; have hfz13_1 := blk_frozen BK276.out 1; have hcz14_0 : w11.cell? ⟨gb275, 0, none⟩ = some (.int .i64 0) := (blk_cell BK275.out 0).trans rfl; have hcz14_1 : w11.cell? ⟨gb275, 1, none⟩ = some (.slice none 0 0) := (blk_cell BK275.out 1).trans rfl; have hfz14_0 := blk_frozen BK275.out 0; have hfz14_1 := blk_frozen BK275.out 1))
 refine bodyPost_ret (results_cell_row rfl _ _ gb275 122 #[.int .i64 a0_0, .slice Ao12 t277.length co12] (0, 0) _ rfl (by (with_reducible repeat (first | refine blk_drewN ?_ _ | refine blk_drew ?_ | refine blk_alloc ?_ _)); refine blk_put (cs := #[.int .i64 a0_0, .slice none 0 0]) ?_ 1 _ rfl; (with_reducible repeat (first | refine blk_drewN ?_ _ | refine blk_drew ?_ | refine blk_alloc ?_ _)); refine blk_put (cs := #[.int .i64 0, .slice none 0 0]) ?_ 0 _ rfl; (with_reducible repeat (first | refine blk_drewN ?_ _ | refine blk_drew ?_ | refine blk_alloc ?_ _)); refine blk_far ?_ NB275_276.out _; (with_reducible repeat (first | refine blk_drewN ?_ _ | refine blk_drew ?_ | refine blk_alloc ?_ _)); exact BK275.out) Try.underlying122 rfl (by kernel_rfl)) rfl ?_
 exact ⟨_, by first | rfl | (simp [errW_none, errW_some] <;> rfl) | (simp [*, errW_none, errW_some] <;> rfl), by (with_reducible repeat (first | apply Kd.R_alloc | apply Kd.R_drewN | apply Kd.R_drew)); exact Kd.R_mono (Kd.R_far (p := ⟨gb275, 1, none⟩) (Kd.R_far (p := ⟨gb275, 0, none⟩) (Kd.R_far (p := ⟨gb276, 1, none⟩) (Kd.R_types (Kd.R_types HO279.out BK276.out (by decide)) BK275.out (by decide)) (fun _ hk => hk.1.2) (.slice Ao12 t277.length co12)) (fun _ hk => hk.2) (.int .i64 a0_0)) (fun _ hk => hk.2) (.slice Ao12 t277.length co12)) (fun _ hk => trivial), by repeat (first | (with_reducible first | exact HB.out | apply below_alloc | apply pw_below_drewN | apply below_drew1 | refine below_set ?_ GE274.out | refine below_set ?_ GE275.out | refine below_set ?_ GE276.out) | exact HB.out)⟩
def laws_toFreeS.l0 : Nat → List (S183) → List (S122) → Int → Option ((List (S122)))
 | 0, _, _, _ => none
 | k + 1, x0, x3, x4 => if x4 < (x0.length : Int) then (if 0 ≤ x4 then ((laws_toFree.f k ((rd_T183 x0 x4).f0) ((rd_T183 x0 x4).f1)).bind fun bt284 => (if x4 < (x3.length : Int) then (laws_toFreeS.l0 k x0 (x3.set (x4 : Int).toNat (⟨bt284.1, bt284.2⟩ : S122)) (wrap64 (x4 + 1))) else (none))) else (none)) else (some x3)
def laws_toFreeS.f (k : Nat) (l0 : List (S183)) : Option ((List (S122))) := if 0 ≤ (l0.length : Int) then (if ((l0.length : Int) : Int).toNat ≤ 8796093022208 then (laws_toFreeS.l0 k l0 (List.replicate ((l0.length : Int) : Int).toNat z122) 0) else (none)) else (none)
theorem laws_toFreeS.calls (k : Nat) (A0 : Option Addr) (c0 : Nat) (l0 : List (S183)) (r : List (S122)) (w : World) (hr0 : Kd.C k183 w A0 l0.length l0) (hc0 : l0.length ≤ c0) (h : laws_toFreeS.f k l0 = some r) :
  Calls Try.prog 133 #[.slice A0 l0.length c0] w fun e w' => ∃ v0_ : Value, e = .returned (v0_) ∧ Kd.S k122 122 w' w.heap.size (fun _ => True) v0_ r ∧ Below w.heap.size w w' := by
 have hu183 := Try.underlying183
 have hu122 := Try.underlying122
 have HR0 := Aside0.mk hr0
 have HC0 := Aside0.mk hc0
 clear hr0 hc0
 have HB := Aside0.mk (Below.refl w.heap.size w)
 have H : (if 0 ≤ (l0.length : Int) then (if ((l0.length : Int) : Int).toNat ≤ 8796093022208 then (laws_toFreeS.l0 k l0 (List.replicate ((l0.length : Int) : Int).toNat z122) 0) else (none)) else (none)) = some r := h
 clear h
 by_cases c2 : 0 ≤ (l0.length : Int)
 ·rw [if_pos c2] at H
  have c2b0 := eq_true c2
  have c2b1 : decide (0 ≤ (l0.length : Int)) = true := decide_eq_true c2
  clear c2
  by_cases c3 : ((l0.length : Int) : Int).toNat ≤ 8796093022208
  ·rw [if_pos c3] at H
   have c3b0 := eq_true c3
   have c3b1 : decide (((l0.length : Int) : Int).toNat ≤ 8796093022208) = true := decide_eq_true c3
   clear c3
   obtain ⟨y280, hy280⟩ : ∃ y_ : List (S122), y_ = (List.replicate ((l0.length : Int) : Int).toNat z122) := ⟨_, rfl⟩
   replace H : (laws_toFreeS.l0 k l0 y280 0) = some r := by first | (rw [hy280]; with_reducible exact H) | (have H2_ := (Option.bind_some _ _).symm.trans H; rw [hy280]; with_reducible exact H2_) | (have H2_ := (Option.bind_some _ _).symm.trans H; with_reducible exact H2_) | with_reducible exact H | (rw [hy280]; exact H) | exact H
   have Ny280 := Aside0.mk hy280
   clear hy280
   have H' := Aside0.mk H
   clear H
   go_enter Try.func133, Try.ntmps133
   go_wp2_with (first | ((with_reducible refine gate_dst (N := 7) rfl ?_); refine Kd.S_make k122 _ 122 rfl (N := 7) rfl 51 _ _ rfl (l0.length : Int) rfl rfl Try.underlying51 (.agg #[(.int .i64 0), (.slice none 0 0)]) 32 info122 rfl (by decide) (by omega) z122 (ok := fun _ => True) (okp := fun _ => True) (k122_mkM _ _ _ z122 (Kd.R_nil _ _ _ _ _)) (fun _ hk => hk) trivial (of_decide_eq_true (by with_reducible assumption)) (Nat.le_trans (Nat.mul_le_mul_right _ (of_decide_eq_true (by with_reducible assumption) : (l0.length : Int).toNat ≤ 8796093022208)) (by omega)) (Below.refl _ _) (Nat.le_refl _) ?_; intro v281 w4 ho5 hb hg_ hnew_; clear hg_ hnew_; (first | rw [← Ny280.out] at ho5 | (simp only [Int.reduceToNat] at ho5; rw [← Ny280.out] at ho5)); have n0_ := Aside0.mk (Kd.S_lower ho5 (below_size (by repeat (first | (with_reducible first | exact HB.out | apply below_alloc | apply pw_below_drewN | apply below_drew1) | exact HB.out)))); have n1_ := Aside0.mk (below_step (by repeat (first | (with_reducible first | exact HB.out | apply below_alloc | apply pw_below_drewN | apply below_drew1) | exact HB.out)) hb); clear HB; have HO282 := n0_; have HB := n1_; clear n0_ n1_; clear hb ho5))
   go_loopg [4] k (fun kq v4 w' => ∃ (x3_1 : List (S122)) (x4_1 : Int), v4 = .int .i64 x4_1 ∧ Aside0 (laws_toFreeS.l0 kq l0 x3_1 x4_1 = some r) ∧ Aside0 (kq ≤ k) ∧ Aside0 (Kd.S k122 122 w' w.heap.size (fun _ => True) v281 x3_1) ∧ Aside0 (Below w.heap.size w w'))
   case atStart => exact ⟨(y280), (0), (by first | rfl | (simp; done) | (simp [*]; done)), H', ⟨Nat.le_refl _⟩, ⟨by (with_reducible repeat (first | apply Kd.S_alloc | apply Kd.S_drewN | apply Kd.S_drew)); exact HO282.out⟩, ⟨by repeat (first | (with_reducible first | exact HB.out | apply below_alloc | apply pw_below_drewN | apply below_drew1) | exact HB.out)⟩⟩
   case round =>
    clear H'
    try clear c2
    try clear c2b0
    try clear c2b1
    try clear c3
    try clear c3b0
    try clear c3b1
    obtain ⟨x3_1, x4_1, rfl, HA, HK1, HO_3, HB⟩ := hrel
    cases gk with
    | zero => exact absurd HA.out (by simp [laws_toFreeS.l0])
    | succ k1 =>
     have H := HA.out
     clear HA
     simp only [laws_toFreeS.l0] at H
     by_cases c6 : x4_1 < (l0.length : Int)
     ·rw [if_pos c6] at H
      have c6b0 : decide (x4_1 < (l0.length : Int)) = true := decide_eq_true c6
      clear c6
      by_cases c7 : 0 ≤ x4_1
      ·rw [if_pos c7] at H
       have c7b0 : decide (0 ≤ x4_1) = true := decide_eq_true c7
       clear c7
       replace H := Option.bind_eq_some_iff.mp H
       obtain ⟨⟨t284, t285⟩, A80, H⟩ := H
       replace H : (if x4_1 < (x3_1.length : Int) then (laws_toFreeS.l0 k1 l0 (x3_1.set (x4_1 : Int).toNat (⟨t284, t285⟩ : S122)) (wrap64 (x4_1 + 1))) else (none)) = some r := H
       have A8 := Aside0.mk A80
       clear A80
       by_cases c9 : x4_1 < (x3_1.length : Int)
       ·rw [if_pos c9] at H
        have c9b0 : decide (x4_1 < (x3_1.length : Int)) = true := decide_eq_true c9
        clear c9
        obtain ⟨y288, hy288⟩ : ∃ y_ : List (S122), y_ = (x3_1.set (x4_1 : Int).toNat (⟨t284, t285⟩ : S122)) := ⟨_, rfl⟩
        replace H : (laws_toFreeS.l0 k1 l0 y288 (wrap64 (x4_1 + 1))) = some r := by first | (rw [hy288]; with_reducible exact H) | (have H2_ := (Option.bind_some _ _).symm.trans H; rw [hy288]; with_reducible exact H2_) | (have H2_ := (Option.bind_some _ _).symm.trans H; with_reducible exact H2_) | with_reducible exact H | (rw [hy288]; exact H) | exact H
        have Ny288 := Aside0.mk hy288
        clear hy288
        have H' := Aside0.mk H
        clear H
        have p283 : 0 ≤ (x4_1 : Int) := of_decide_eq_true (by with_reducible assumption)
        have q283 : x4_1 < (l0.length : Int) := of_decide_eq_true (by with_reducible assumption)
        obtain ⟨ad283, A283_1, c283_1, e283, hx283_0, hx283_1, hl283_1, hi283_1⟩ := at_T183 HR0.out x4_1 p283 q283
        cases e283
        replace hx283_0 := (HB.out.cell (World.block_lt_of_cell? w _ hx283_0)).trans hx283_0
        replace hx283_1 := (HB.out.cell (World.block_lt_of_cell? w _ hx283_1)).trans hx283_1
        have HR283_1 := Aside0.mk hi283_1
        have HC283_1 := Aside0.mk hl283_1
        clear hi283_1 hl283_1
        replace p283 := eq_true p283
        replace q283 := eq_true q283
        go_wp2_with (first | ((with_reducible refine gate_callee (f := 159) rfl ?_); refine goesL_ (some 20) rfl rfl Try.func159 (by kernel_rfl) rfl #[.agg #[.int .i64 ((rd_T183 l0 x4_1).f0), .slice A283_1 ((rd_T183 l0 x4_1).f1).length c283_1]] rfl (by (try simp only [List.map_toArray, List.map_cons, List.map_nil]); first | done | rfl | (simp only [List.length_drop, List.length_take]; rfl)) ?_; (with_reducible refine (laws_toFree.calls k1 ((rd_T183 l0 x4_1).f0) _ _ ((rd_T183 l0 x4_1).f1) t284 t285 _ ?side1 ?side2 A8.out).mono ?_); (case side1 => repeat (first | exact (Kd.C_below HR283_1.out HB.out) | (with_reducible refine Kd.C_alloc ?_ _) | (with_reducible refine Kd.C_drewN ?_ _) | (with_reducible refine Kd.C_drew ?_))); (case side2 => exact HC283_1.out); rintro e w11 ⟨v286, rfl, ho0, hb⟩; refine ⟨_, rfl, ?_⟩; (first | have rs_v286 := one_store (P := Try.prog) ho0 | have rs_v286 := one_store (P := Try.prog) (Kd.S_R ho0) | skip); have n0_ := Aside0.mk (Kd.S_elder' (by (with_reducible repeat (first | apply Kd.S_alloc | apply Kd.S_drewN | apply Kd.S_drew)); exact HO_3.out) (Kd.R_base ho0) hb); have n1_ := Aside0.mk (Kd.R_lower ho0 (below_size (by repeat (first | (with_reducible first | exact HB.out | apply below_alloc | apply pw_below_drewN | apply below_drew1) | exact HB.out)))); have n2_ := Aside0.mk (below_step (by repeat (first | (with_reducible first | exact HB.out | apply below_alloc | apply pw_below_drewN | apply below_drew1) | exact HB.out)) hb); clear HO_3; clear HB; have HO_3 := n0_; have HO287 := n1_; have HB := n2_; clear n0_ n1_ n2_; (try clear hb); (try clear hb2); (try clear hk); (try clear hi); (try clear ho0); have p10 : 0 ≤ (x4_1 : Int) := of_decide_eq_true (by with_reducible assumption); have q10 : (x4_1 : Int) < ((x3_1.length : Int) : Int) := of_decide_eq_true (by with_reducible assumption); obtain ⟨go10, co10, eo10, gb10, gl10, cl10, HG10⟩ := Kd.S_form HO_3.out (by omega); (first | cases eo10 | (injection eo10 with ea_ en_ ec_; (first | subst ea_ | (injection ea_ with ea_; subst ea_)); subst ec_; clear en_)); have GB10 := Aside0.mk gb10; have GG10 := Aside0.mk HG10; clear gb10 gl10 HG10; obtain ⟨_, ce10, hcl10, hM10, hcc10, hfr10, _, _⟩ := Kd.S_elem HO_3.out z122 (x4_1 : Int) p10 q10; obtain ⟨ve10_1, rfl, ge10_1⟩ := k122_openM hM10; have hx10_0 : w11.cell? ⟨go10, (x4_1 : Int).toNat * 2, none⟩ = some (.int .i64 ((rd_T122 x3_1 x4_1).f0)) := hcc10 0 _ rfl; have hx10_1 : w11.cell? ⟨go10, (x4_1 : Int).toNat * 2 + 1, none⟩ = some (ve10_1) := hcc10 1 _ rfl; have hf10_0 : w11.frozen? ⟨go10, (x4_1 : Int).toNat * 2, none⟩ = false := hfr10 0; have hf10_1 : w11.frozen? ⟨go10, (x4_1 : Int).toNat * 2 + 1, none⟩ = false := hfr10 1; clear hcl10 hcc10 hfr10 hM10; replace p10 := eq_true p10; replace q10 := eq_true q10; have n_ := Aside0.mk (Kd.S_mono (ok' := (fun k_ => some k_ ≠ (v286 : Value).ownBlock)) HO_3.out (fun k_ hk => hk.2)); clear HO_3; have HO_3 := n_; clear n_; have HX12 := Aside0.mk (show Kd.S k122 122 w11 w.heap.size (fun k_ => ((fun _ => True)) k_ ∧ ¬ ((fun k_ => some k_ = (v286 : Value).ownBlock)) k_) (.slice (some ⟨go10, 0, none⟩) x3_1.length co10) x3_1 from (by (with_reducible repeat (first | apply Kd.S_alloc | apply Kd.S_drewN | apply Kd.S_drew)); exact Kd.S_mono HO_3.out (fun k_ hk => ⟨trivial, fun e_ => hk e_⟩))); obtain ⟨oki12, ce12, hcl12, hM12, hcc12, hfr12, hoki12, hH12⟩ := Kd.S_elem HX12.out z122 (x4_1 : Int) (of_decide_eq_true (by with_reducible assumption)) (by have h_ : (x4_1 : Int) < ((x3_1.length : Int) : Int) := of_decide_eq_true (by with_reducible assumption); first | exact h_ | (have e_ := (Kd.S_reads' HO_3.out).1; omega) | simpa using h_); obtain ⟨ve12_1, rfl, ge12_1⟩ := k122_openM hM12; have HP12 := Kd.S_seg hH12 (of_decide_eq_true (by with_reducible assumption)) (by have h_ : (x4_1 : Int) < ((x3_1.length : Int) : Int) := of_decide_eq_true (by with_reducible assumption); first | exact h_ | (have e_ := (Kd.S_reads' HO_3.out).1; omega) | simpa using h_) (seg := [.int .i64 t284, v286]) (j := 0) (show 2 ≤ 2 from by decide) (x' := (⟨t284, t285⟩ : S122)) (k122_mkM _ _ _ (⟨t284, t285⟩ : S122) (Kd.R_mono (Kd.R_tight rfl (Kd.R_mono (ok' := fun k_ => ((fun _ => True)) k_ ∧ k_ ≠ go10) (Kd.R_apart' (HO287.out) (Kd.S_typed HO_3.out) (by decide)) (fun k_ hk => ⟨trivial, fun e_ => (hk.2) (by rw [e_]; rfl)⟩))) (fun _ h_ => Or.inr (h_)))) (fun _ hk => hk) (fun k_ hk_ => ((Kd.R_mono (ok' := fun k_ => ((fun _ => True)) k_ ∧ k_ ≠ go10) (Kd.R_apart' (HO287.out) (Kd.S_typed HO_3.out) (by decide)) (fun k_ hk => ⟨trivial, fun e_ => (hk.2) (by rw [e_]; rfl)⟩))).1 k_ hk_.symm); have hx12_0 := hcc12 0 _ rfl; (try simp only [show (k122).sz = 2 from rfl, Nat.mul_one, Nat.add_zero] at hx12_0); have hf12_0 := hfr12 0; (try simp only [show (k122).sz = 2 from rfl, Nat.mul_one, Nat.add_zero] at hf12_0); have hx12_1 := hcc12 1 _ rfl; (try simp only [show (k122).sz = 2 from rfl, Nat.mul_one, Nat.add_zero] at hx12_1); have hf12_1 := hfr12 1; (try simp only [show (k122).sz = 2 from rfl, Nat.mul_one, Nat.add_zero] at hf12_1); clear hcl12 hcc12 hfr12 hM12 hoki12 hH12) | ((with_reducible refine gate_store (t := 122) (p := 21) rfl ?_); refine store_event (t := 122) (p := 21) (v := ?vo_w13) (w1 := ((w11.setCell ⟨go10, (x4_1 : Int).toNat * 2, none⟩ (.int .i64 t284)).setCell ⟨go10, (x4_1 : Int).toNat * 2 + 1, none⟩ (v286))) ?hg ?ho ?hn ?hr ?_; (case ho => rfl); (case hg => rfl); (case hn => rfl); (case hr => first | (go_simp; done) | (go_simp; rfl)); intro w13 hw; have hg : w11.grownBy w13 (some go10) := (by rw [hw]; exact HP12.2); have hp_ : Kd.S k122 122 w13 w.heap.size (fun _ => True) (.slice (some ⟨go10, 0, none⟩) x3_1.length co10) y288 := (by rw [hw, Ny288.out]; exact HP12.1); clear HP12; have n0_ := Aside0.mk (hp_); have n1_ := Aside0.mk ((by rw [hw]; exact below_set (below_set (HB.out) GB10.out) GB10.out : Below w.heap.size w w13)); clear HO_3; clear HB; clear HO287; have HO_3 := n0_; have HB := n1_; clear n0_ n1_; clear hg hw hp_))
        go_roundg k1
        case measure => have := HK1.out; omega
        case rel => exact ⟨(y288), (wrap64 (x4_1 + 1)), (by first | rfl | (simp; done) | (simp [*]; done)), H', ⟨by have := HK1.out; omega⟩, ⟨by (with_reducible repeat (first | apply Kd.S_alloc | apply Kd.S_drewN | apply Kd.S_drew)); exact HO_3.out⟩, ⟨by repeat (first | (with_reducible first | exact HB.out | apply below_alloc | apply pw_below_drewN | apply below_drew1) | exact HB.out)⟩⟩
       ·rw [if_neg c9] at H
        exact absurd H (by simp)
      ·rw [if_neg c7] at H
       exact absurd H (by simp)
     ·rw [if_neg c6] at H
      have c6b0 : decide (x4_1 < (l0.length : Int)) = false := decide_eq_false c6
      clear c6
      obtain rfl := Option.some.inj H
      go_wp2
      go_ret
      exact ⟨_, by first | rfl | (simp [errW_none, errW_some] <;> rfl) | (simp [*, errW_none, errW_some] <;> rfl), by (with_reducible repeat (first | apply Kd.S_alloc | apply Kd.S_drewN | apply Kd.S_drew)); exact HO_3.out, by repeat (first | (with_reducible first | exact HB.out | apply below_alloc | apply pw_below_drewN | apply below_drew1) | exact HB.out)⟩
  ·rw [if_neg c3] at H
   exact absurd H (by simp)
 ·rw [if_neg c2] at H
  exact absurd H (by simp)
def laws_toMeta.f (k : Nat) (a0_0 : Int) (a0_1 : Int) (a0_2 : Int) (l0_3 : List (S183)) : Option (Int × Int × Int × (List (S122))) := (laws_toFreeS.f k l0_3).bind fun t292 => (some (a0_0, a0_1, a0_2, t292))
theorem laws_toMeta.calls (k : Nat) (a0_0 : Int) (a0_1 : Int) (a0_2 : Int) (A0_3 : Option Addr) (c0_3 : Nat) (l0_3 : List (S183)) (r1 : Int) (r2 : Int) (r3 : Int) (r4 : List (S122)) (w : World) (hr0_3 : Kd.C k183 w A0_3 l0_3.length l0_3) (hc0_3 : l0_3.length ≤ c0_3) (h : laws_toMeta.f k a0_0 a0_1 a0_2 l0_3 = some (r1, r2, r3, r4)) :
  Calls Try.prog 80 #[.agg #[.int .i64 a0_0, .int .i64 a0_1, .int .i64 a0_2, .slice A0_3 l0_3.length c0_3]] w fun e w' => ∃ v3_ : Value, e = .returned (.agg #[.int .i64 r1, .int .i64 r2, .int .i64 r3, v3_]) ∧ Kd.S k122 122 w' w.heap.size (fun _ => True) v3_ r4 ∧ Below w.heap.size w w' := by
 have hu69 := Try.underlying69
 have hu53 := Try.underlying53
 have HR0_3 := Aside0.mk hr0_3
 have HC0_3 := Aside0.mk hc0_3
 clear hr0_3 hc0_3
 have HB := Aside0.mk (Below.refl w.heap.size w)
 have H : ((laws_toFreeS.f k l0_3).bind fun t292 => (some (a0_0, a0_1, a0_2, t292))) = some (r1, r2, r3, r4) := h
 clear h
 replace H := Option.bind_eq_some_iff.mp H
 obtain ⟨t292, A20, H⟩ := H
 replace H : (some (a0_0, a0_1, a0_2, t292)) = some (r1, r2, r3, r4) := H
 have A2 := Aside0.mk A20
 clear A20
 simp only [Option.some.injEq, Prod.mk.injEq] at H
 obtain ⟨rfl, rfl, rfl, rfl⟩ := H
 go_enter Try.func80, Try.ntmps80
 go_wp2_with (first | ((with_reducible refine gate_dst (N := 1) rfl ?_); refine box_event ?hg (N := 1) ?hd (cs := #[.int .i64 a0_0, .int .i64 a0_1, .int .i64 a0_2, .slice A0_3 l0_3.length c0_3]) (t := 69) ?hr ?_; (case hd => rfl); (case hg => rfl); (case hr => first | (go_simp; done) | (go_simp; rfl)); intro gb289 hg w3 hbox hb; have n0_ := Aside0.mk (below_step (by repeat (first | (with_reducible first | exact HB.out | apply below_alloc | apply pw_below_drewN | apply below_drew1) | exact HB.out)) hb); have n1_ := Aside0.mk (hbox); have n2_ := Aside0.mk ((by rw [hg]; exact (below_size (by repeat (first | (with_reducible first | exact HB.out | apply below_alloc | apply pw_below_drewN | apply below_drew1) | exact HB.out))) : w.heap.size ≤ gb289)); have n3_ := Aside0.mk ((by rw [hg]; exact (below_size (by repeat (first | (with_reducible first | exact HB.out | apply below_alloc | apply pw_below_drewN | apply below_drew1) | exact HB.out))) : w.heap.size ≤ gb289)); clear HB; have HB := n0_; have BK289 := n1_; have GW289 := n2_; have GE289 := n3_; clear n0_ n1_ n2_ n3_; clear hb hbox hg) | ((with_reducible refine gate_dst (N := 2) rfl ?_); refine box_event ?hg (N := 2) ?hd (cs := #[.int .i64 0, .int .i64 0, .int .i64 0, .slice none 0 0]) (t := 53) ?hr ?_; (case hd => rfl); (case hg => rfl); (case hr => first | (go_simp; done) | (go_simp; rfl)); intro gb290 hg w4 hbox hb; have n0_ := Aside0.mk (blk_below (g := gb289) (o := .cells #[.int .i64 a0_0, .int .i64 a0_1, .int .i64 a0_2, .slice A0_3 l0_3.length c0_3] 69 (0, 0)) (by (with_reducible repeat (first | refine blk_drewN ?_ _ | refine blk_drew ?_ | refine blk_alloc ?_ _)); exact BK289.out) hb); have n1_ := Aside0.mk (below_step (by repeat (first | (with_reducible first | exact HB.out | apply below_alloc | apply pw_below_drewN | apply below_drew1 | refine below_set ?_ GE289.out) | exact HB.out)) hb); have n2_ := Aside0.mk (hbox); have n3_ := Aside0.mk ((by rw [hg]; exact (below_size (by repeat (first | (with_reducible first | exact HB.out | apply below_alloc | apply pw_below_drewN | apply below_drew1 | refine below_set ?_ GE289.out) | exact HB.out))) : w.heap.size ≤ gb290)); have n4_ := Aside0.mk ((by rw [hg]; exact (below_size (by repeat (first | (with_reducible first | exact HB.out | apply below_alloc | apply pw_below_drewN | apply below_drew1 | refine below_set ?_ GE289.out) | exact HB.out))) : w.heap.size ≤ gb290)); have n5_ := Aside0.mk ((by rw [hg]; exact Nat.ne_of_lt (blk_lt (g := gb289) (o := .cells #[.int .i64 a0_0, .int .i64 a0_1, .int .i64 a0_2, .slice A0_3 l0_3.length c0_3] 69 (0, 0)) (by (with_reducible repeat (first | refine blk_drewN ?_ _ | refine blk_drew ?_ | refine blk_alloc ?_ _)); exact BK289.out)) : gb289 ≠ gb290)); have n6_ := Aside0.mk ((by rw [hg]; exact Nat.ne_of_gt (blk_lt (g := gb289) (o := .cells #[.int .i64 a0_0, .int .i64 a0_1, .int .i64 a0_2, .slice A0_3 l0_3.length c0_3] 69 (0, 0)) (by (with_reducible repeat (first | refine blk_drewN ?_ _ | refine blk_drew ?_ | refine blk_alloc ?_ _)); exact BK289.out)) : gb290 ≠ gb289)); clear BK289; clear HB; have BK289 := n0_; have HB := n1_; have BK290 := n2_; have GW290 := n3_; have GE290 := n4_; have NB289_290 := n5_; have NB290_289 := n6_; clear n0_ n1_ n2_ n3_ n4_ n5_ n6_; clear hb hbox hg) | ((with_reducible refine gate_dst (N := 3) rfl ?_); refine box_event ?hg (N := 3) ?hd (cs := #[.int .i64 0, .int .i64 0, .int .i64 0, .slice none 0 0]) (t := 53) ?hr ?_; (case hd => rfl); (case hg => rfl); (case hr => first | (go_simp; done) | (go_simp; rfl)); intro gb291 hg w5 hbox hb; have n0_ := Aside0.mk (blk_below (g := gb289) (o := .cells #[.int .i64 a0_0, .int .i64 a0_1, .int .i64 a0_2, .slice A0_3 l0_3.length c0_3] 69 (0, 0)) (by (with_reducible repeat (first | refine blk_drewN ?_ _ | refine blk_drew ?_ | refine blk_alloc ?_ _)); exact BK289.out) hb); have n1_ := Aside0.mk (blk_below (g := gb290) (o := .cells #[.int .i64 0, .int .i64 0, .int .i64 0, .slice none 0 0] 53 (0, 0)) (by (with_reducible repeat (first | refine blk_drewN ?_ _ | refine blk_drew ?_ | refine blk_alloc ?_ _)); exact BK290.out) hb); have n2_ := Aside0.mk (below_step (by repeat (first | (with_reducible first | exact HB.out | apply below_alloc | apply pw_below_drewN | apply below_drew1 | refine below_set ?_ GE289.out | refine below_set ?_ GE290.out) | exact HB.out)) hb); have n3_ := Aside0.mk (hbox); have n4_ := Aside0.mk ((by rw [hg]; exact (below_size (by repeat (first | (with_reducible first | exact HB.out | apply below_alloc | apply pw_below_drewN | apply below_drew1 | refine below_set ?_ GE289.out | refine below_set ?_ GE290.out) | exact HB.out))) : w.heap.size ≤ gb291)); have n5_ := Aside0.mk ((by rw [hg]; exact (below_size (by repeat (first | (with_reducible first | exact HB.out | apply below_alloc | apply pw_below_drewN | apply below_drew1 | refine below_set ?_ GE289.out | refine below_set ?_ GE290.out) | exact HB.out))) : w.heap.size ≤ gb291)); have n6_ := Aside0.mk ((by rw [hg]; exact Nat.ne_of_lt (blk_lt (g := gb289) (o := .cells #[.int .i64 a0_0, .int .i64 a0_1, .int .i64 a0_2, .slice A0_3 l0_3.length c0_3] 69 (0, 0)) (by (with_reducible repeat (first | refine blk_drewN ?_ _ | refine blk_drew ?_ | refine blk_alloc ?_ _)); exact BK289.out)) : gb289 ≠ gb291)); have n7_ := Aside0.mk ((by rw [hg]; exact Nat.ne_of_gt (blk_lt (g := gb289) (o := .cells #[.int .i64 a0_0, .int .i64 a0_1, .int .i64 a0_2, .slice A0_3 l0_3.length c0_3] 69 (0, 0)) (by (with_reducible repeat (first | refine blk_drewN ?_ _ | refine blk_drew ?_ | refine blk_alloc ?_ _)); exact BK289.out)) : gb291 ≠ gb289)); have n8_ := Aside0.mk ((by rw [hg]; exact Nat.ne_of_lt (blk_lt (g := gb290) (o := .cells #[.int .i64 0, .int .i64 0, .int .i64 0, .slice none 0 0] 53 (0, 0)) (by (with_reducible repeat (first | refine blk_drewN ?_ _ | refine blk_drew ?_ | refine blk_alloc ?_ _)); exact BK290.out)) : gb290 ≠ gb291)); have n9_ := Aside0.mk ((by rw [hg]; exact Nat.ne_of_gt (blk_lt (g := gb290) (o := .cells #[.int .i64 0, .int .i64 0, .int .i64 0, .slice none 0 0] 53 (0, 0)) (by (with_reducible repeat (first | refine blk_drewN ?_ _ | refine blk_drew ?_ | refine blk_alloc ?_ _)); exact BK290.out)) : gb291 ≠ gb290)); clear BK289; clear BK290; clear HB; have BK289 := n0_; have BK290 := n1_; have HB := n2_; have BK291 := n3_; have GW291 := n4_; have GE291 := n5_; have NB289_291 := n6_; have NB291_289 := n7_; have NB290_291 := n8_; have NB291_290 := n9_; clear n0_ n1_ n2_ n3_ n4_ n5_ n6_ n7_ n8_ n9_; clear hb hbox hg; have hnb6 := NB289_290.out; have hnc6 := NB290_289.out; have hnb7 := NB289_291.out; have hnc7 := NB291_289.out; have hcz8_0 : w5.cell? ⟨gb289, 0, none⟩ = some (.int .i64 a0_0) := (blk_cell BK289.out 0).trans rfl; have hcz8_1 : w5.cell? ⟨gb289, 1, none⟩ = some (.int .i64 a0_1) := (blk_cell BK289.out 1).trans rfl; have hcz8_2 : w5.cell? ⟨gb289, 2, none⟩ = some (.int .i64 a0_2) := (blk_cell BK289.out 2).trans rfl; have hcz8_3 : w5.cell? ⟨gb289, 3, none⟩ = some (.slice A0_3 l0_3.length c0_3) := (blk_cell BK289.out 3).trans rfl; have hfz8_0 := blk_frozen BK289.out 0; have hfz8_1 := blk_frozen BK289.out 1; have hfz8_2 := blk_frozen BK289.out 2; have hfz8_3 := blk_frozen BK289.out 3; have hnb9 := NB291_290.out; have hnc9 := NB290_291.out; have hcz10_0 : w5.cell? ⟨gb291, 0, none⟩ = some (.int .i64 0) := (blk_cell BK291.out 0).trans rfl; have hcz10_1 : w5.cell? ⟨gb291, 1, none⟩ = some (.int .i64 0) := (blk_cell BK291.out 1).trans rfl; have hcz10_2 : w5.cell? ⟨gb291, 2, none⟩ = some (.int .i64 0) := (blk_cell BK291.out 2).trans rfl; have hcz10_3 : w5.cell? ⟨gb291, 3, none⟩ = some (.slice none 0 0) := (blk_cell BK291.out 3).trans rfl; have hfz10_0 := blk_frozen BK291.out 0; have hfz10_1 := blk_frozen BK291.out 1; have hfz10_2 := blk_frozen BK291.out 2; have hfz10_3 := blk_frozen BK291.out 3) | ((with_reducible refine gate_callee (f := 133) rfl ?_); refine goesL_ (some 15) rfl rfl Try.func133 (by kernel_rfl) rfl #[.slice A0_3 l0_3.length c0_3] rfl (by (try simp only [List.map_toArray, List.map_cons, List.map_nil]); first | done | rfl | (simp only [List.length_drop, List.length_take]; rfl)) ?_; (with_reducible refine (laws_toFreeS.calls k _ _ l0_3 t292 _ ?side1 ?side2 A2.out).mono ?_); (case side1 => exact Kd.C_below HR0_3.out (by repeat (first | (with_reducible first | exact HB.out | apply below_alloc | apply pw_below_drewN | apply below_drew1 | refine below_set ?_ GE289.out | refine below_set ?_ GE290.out | refine below_set ?_ GE291.out) | exact HB.out))); (case side2 => exact HC0_3.out); rintro e w11 ⟨v293, rfl, ho0, hb⟩; refine ⟨_, rfl, ?_⟩; (first | have rs_v293 := one_store (P := Try.prog) ho0 | have rs_v293 := one_store (P := Try.prog) (Kd.S_R ho0) | skip); have n0_ := Aside0.mk (Kd.S_lower ho0 (below_size (by repeat (first | (with_reducible first | exact HB.out | apply below_alloc | apply pw_below_drewN | apply below_drew1 | refine below_set ?_ GE289.out | refine below_set ?_ GE290.out | refine below_set ?_ GE291.out) | exact HB.out)))); have n1_ := Aside0.mk (blk_below (g := gb289) (o := .cells #[.int .i64 a0_0, .int .i64 a0_1, .int .i64 a0_2, .slice A0_3 l0_3.length c0_3] 69 (0, 0)) (by (with_reducible repeat (first | refine blk_drewN ?_ _ | refine blk_drew ?_ | refine blk_alloc ?_ _)); refine blk_far ?_ NB289_291.out _; (with_reducible repeat (first | refine blk_drewN ?_ _ | refine blk_drew ?_ | refine blk_alloc ?_ _)); refine blk_far ?_ NB289_291.out _; (with_reducible repeat (first | refine blk_drewN ?_ _ | refine blk_drew ?_ | refine blk_alloc ?_ _)); refine blk_far ?_ NB289_291.out _; (with_reducible repeat (first | refine blk_drewN ?_ _ | refine blk_drew ?_ | refine blk_alloc ?_ _)); exact BK289.out) hb); have n2_ := Aside0.mk (blk_below (g := gb290) (o := .cells #[.int .i64 0, .int .i64 0, .int .i64 0, .slice none 0 0] 53 (0, 0)) (by (with_reducible repeat (first | refine blk_drewN ?_ _ | refine blk_drew ?_ | refine blk_alloc ?_ _)); refine blk_far ?_ NB290_291.out _; (with_reducible repeat (first | refine blk_drewN ?_ _ | refine blk_drew ?_ | refine blk_alloc ?_ _)); refine blk_far ?_ NB290_291.out _; (with_reducible repeat (first | refine blk_drewN ?_ _ | refine blk_drew ?_ | refine blk_alloc ?_ _)); refine blk_far ?_ NB290_291.out _; (with_reducible repeat (first | refine blk_drewN ?_ _ | refine blk_drew ?_ | refine blk_alloc ?_ _)); exact BK290.out) hb); have n3_ := Aside0.mk (blk_below (g := gb291) (o := .cells #[.int .i64 a0_0, .int .i64 a0_1, .int .i64 a0_2, .slice none 0 0] 53 (0, 0)) (by (with_reducible repeat (first | refine blk_drewN ?_ _ | refine blk_drew ?_ | refine blk_alloc ?_ _)); refine blk_put (cs := #[.int .i64 a0_0, .int .i64 a0_1, .int .i64 0, .slice none 0 0]) ?_ 2 _ rfl; (with_reducible repeat (first | refine blk_drewN ?_ _ | refine blk_drew ?_ | refine blk_alloc ?_ _)); refine blk_put (cs := #[.int .i64 a0_0, .int .i64 0, .int .i64 0, .slice none 0 0]) ?_ 1 _ rfl; (with_reducible repeat (first | refine blk_drewN ?_ _ | refine blk_drew ?_ | refine blk_alloc ?_ _)); refine blk_put (cs := #[.int .i64 0, .int .i64 0, .int .i64 0, .slice none 0 0]) ?_ 0 _ rfl; (with_reducible repeat (first | refine blk_drewN ?_ _ | refine blk_drew ?_ | refine blk_alloc ?_ _)); exact BK291.out) hb); have n4_ := Aside0.mk (below_step (by repeat (first | (with_reducible first | exact HB.out | apply below_alloc | apply pw_below_drewN | apply below_drew1 | refine below_set ?_ GE289.out | refine below_set ?_ GE290.out | refine below_set ?_ GE291.out) | exact HB.out)) hb); clear BK289; clear BK290; clear BK291; clear HB; have HO294 := n0_; have BK289 := n1_; have BK290 := n2_; have BK291 := n3_; have HB := n4_; clear n0_ n1_ n2_ n3_ n4_; (try clear hb); (try clear hb2); (try clear hk); (try clear hi); (try clear ho0); obtain ⟨Ao12, co12, eo12⟩ := Kd.S_slice HO294.out; subst eo12; have hcz13_0 : w11.cell? ⟨gb291, 0, none⟩ = some (.int .i64 a0_0) := (blk_cell BK291.out 0).trans rfl; have hcz13_1 : w11.cell? ⟨gb291, 1, none⟩ = some (.int .i64 a0_1) := (blk_cell BK291.out 1).trans rfl; have hcz13_2 : w11.cell? ⟨gb291, 2, none⟩ = some (.int .i64 a0_2) := (blk_cell BK291.out 2).trans rfl; have hcz13_3 : w11.cell? ⟨gb291, 3, none⟩ = some (.slice none 0 0) := (blk_cell BK291.out 3).trans rfl; have hfz13_0 := blk_frozen BK291.out 0; have hfz13_1 := blk_frozen BK291.out 1; have hfz13_2 := blk_frozen BK291.out 2; have hfz13_3 := blk_frozen BK291.out 3; have hcz14_0 : w11.cell? ⟨gb290, 0, none⟩ = some (.int .i64 0) := (blk_cell BK290.out 0).trans rfl; have hcz14_1 : w11.cell? ⟨gb290, 1, none⟩ = some (.int .i64 0) := (blk_cell BK290.out 1).trans rfl; have hcz14_2 : w11.cell? ⟨gb290, 2, none⟩ = some (.int .i64 0) := (blk_cell BK290.out 2).trans rfl; have hcz14_3 : w11.cell? ⟨gb290, 3, none⟩ = some (.slice none 0 0) := (blk_cell BK290.out 3).trans rfl; have hfz14_0 := blk_frozen BK290.out 0; have hfz14_1 := blk_frozen BK290.out 1; have hfz14_2 := blk_frozen BK290.out 2; have hfz14_3 := blk_frozen BK290.out 3))
 refine bodyPost_ret (results_cell_row rfl _ _ gb290 53 #[.int .i64 a0_0, .int .i64 a0_1, .int .i64 a0_2, .slice Ao12 t292.length co12] (0, 0) _ rfl (by (with_reducible repeat (first | refine blk_drewN ?_ _ | refine blk_drew ?_ | refine blk_alloc ?_ _)); refine blk_put (cs := #[.int .i64 a0_0, .int .i64 a0_1, .int .i64 a0_2, .slice none 0 0]) ?_ 3 _ rfl; (with_reducible repeat (first | refine blk_drewN ?_ _ | refine blk_drew ?_ | refine blk_alloc ?_ _)); refine blk_put (cs := #[.int .i64 a0_0, .int .i64 a0_1, .int .i64 0, .slice none 0 0]) ?_ 2 _ rfl; (with_reducible repeat (first | refine blk_drewN ?_ _ | refine blk_drew ?_ | refine blk_alloc ?_ _)); refine blk_put (cs := #[.int .i64 a0_0, .int .i64 0, .int .i64 0, .slice none 0 0]) ?_ 1 _ rfl; (with_reducible repeat (first | refine blk_drewN ?_ _ | refine blk_drew ?_ | refine blk_alloc ?_ _)); refine blk_put (cs := #[.int .i64 0, .int .i64 0, .int .i64 0, .slice none 0 0]) ?_ 0 _ rfl; (with_reducible repeat (first | refine blk_drewN ?_ _ | refine blk_drew ?_ | refine blk_alloc ?_ _)); refine blk_far ?_ NB290_291.out _; (with_reducible repeat (first | refine blk_drewN ?_ _ | refine blk_drew ?_ | refine blk_alloc ?_ _)); exact BK290.out) Try.underlying53 rfl (by kernel_rfl)) rfl ?_
 exact ⟨_, by first | rfl | (simp [errW_none, errW_some] <;> rfl) | (simp [*, errW_none, errW_some] <;> rfl), by (with_reducible repeat (first | apply Kd.S_alloc | apply Kd.S_drewN | apply Kd.S_drew)); exact Kd.S_mono (Kd.S_far (p := ⟨gb290, 3, none⟩) (Kd.S_far (p := ⟨gb290, 2, none⟩) (Kd.S_far (p := ⟨gb290, 1, none⟩) (Kd.S_far (p := ⟨gb290, 0, none⟩) (Kd.S_far (p := ⟨gb291, 3, none⟩) (Kd.S_types (Kd.S_types HO294.out BK291.out (by decide)) BK290.out (by decide)) (fun _ hk => hk.1.2) (.slice Ao12 t292.length co12)) (fun _ hk => hk.2) (.int .i64 a0_0)) (fun _ hk => hk.2) (.int .i64 a0_1)) (fun _ hk => hk.2) (.int .i64 a0_2)) (fun _ hk => hk.2) (.slice Ao12 t292.length co12)) (fun _ hk => trivial), by repeat (first | (with_reducible first | exact HB.out | apply below_alloc | apply pw_below_drewN | apply below_drew1 | refine below_set ?_ GE289.out | refine below_set ?_ GE290.out | refine below_set ?_ GE291.out) | exact HB.out)⟩
def laws_toReader.f (k : Nat) (a0_0 : Int) (a0_1 : Int) (a0_2 : Int) (a0_3 : Int) (l0_4 : List (S183)) : Option (Int × Int × Int × Int × (List (S122))) := (laws_toMeta.f k a0_1 a0_2 a0_3 l0_4).bind fun bt323 => (some (a0_0, bt323.1, bt323.2.1, bt323.2.2.1, bt323.2.2.2))
theorem laws_toReader.calls (k : Nat) (a0_0 : Int) (a0_1 : Int) (a0_2 : Int) (a0_3 : Int) (A0_4 : Option Addr) (c0_4 : Nat) (l0_4 : List (S183)) (r1 : Int) (r2 : Int) (r3 : Int) (r4 : Int) (r5 : List (S122)) (w : World) (hr0_4 : Kd.C k183 w A0_4 l0_4.length l0_4) (hc0_4 : l0_4.length ≤ c0_4) (h : laws_toReader.f k a0_0 a0_1 a0_2 a0_3 l0_4 = some (r1, r2, r3, r4, r5)) :
  Calls Try.prog 134 #[.agg #[.int .i64 a0_0, .int .i64 a0_1, .int .i64 a0_2, .int .i64 a0_3, .slice A0_4 l0_4.length c0_4]] w fun e w' => ∃ v4_ : Value, e = .returned (.agg #[.int .i64 r1, .int .i64 r2, .int .i64 r3, .int .i64 r4, v4_]) ∧ Kd.S k122 122 w' w.heap.size (fun _ => True) v4_ r5 ∧ Below w.heap.size w w' := by
 have hu154 := Try.underlying154
 have hu118 := Try.underlying118
 have hu69 := Try.underlying69
 have hu53 := Try.underlying53
 have HR0_4 := Aside0.mk hr0_4
 have HC0_4 := Aside0.mk hc0_4
 clear hr0_4 hc0_4
 have HB := Aside0.mk (Below.refl w.heap.size w)
 have H : ((laws_toMeta.f k a0_1 a0_2 a0_3 l0_4).bind fun bt323 => (some (a0_0, bt323.1, bt323.2.1, bt323.2.2.1, bt323.2.2.2))) = some (r1, r2, r3, r4, r5) := h
 clear h
 replace H := Option.bind_eq_some_iff.mp H
 obtain ⟨⟨t323, t324, t325, t326⟩, A20, H⟩ := H
 replace H : (some (a0_0, t323, t324, t325, t326)) = some (r1, r2, r3, r4, r5) := H
 have A2 := Aside0.mk A20
 clear A20
 simp only [Option.some.injEq, Prod.mk.injEq] at H
 obtain ⟨rfl, rfl, rfl, rfl, rfl⟩ := H
 go_enter Try.func134, Try.ntmps134
 go_wp2_with (first | ((with_reducible refine gate_dst (N := 1) rfl ?_); refine box_event ?hg (N := 1) ?hd (cs := #[.int .i64 a0_0, .int .i64 a0_1, .int .i64 a0_2, .int .i64 a0_3, .slice A0_4 l0_4.length c0_4]) (t := 154) ?hr ?_; (case hd => rfl); (case hg => rfl); (case hr => first | (go_simp; done) | (go_simp; rfl)); intro gb320 hg w3 hbox hb; have n0_ := Aside0.mk (below_step (by repeat (first | (with_reducible first | exact HB.out | apply below_alloc | apply pw_below_drewN | apply below_drew1) | exact HB.out)) hb); have n1_ := Aside0.mk (hbox); have n2_ := Aside0.mk ((by rw [hg]; exact (below_size (by repeat (first | (with_reducible first | exact HB.out | apply below_alloc | apply pw_below_drewN | apply below_drew1) | exact HB.out))) : w.heap.size ≤ gb320)); have n3_ := Aside0.mk ((by rw [hg]; exact (below_size (by repeat (first | (with_reducible first | exact HB.out | apply below_alloc | apply pw_below_drewN | apply below_drew1) | exact HB.out))) : w.heap.size ≤ gb320)); clear HB; have HB := n0_; have BK320 := n1_; have GW320 := n2_; have GE320 := n3_; clear n0_ n1_ n2_ n3_; clear hb hbox hg) | ((with_reducible refine gate_dst (N := 2) rfl ?_); refine box_event ?hg (N := 2) ?hd (cs := #[.int .i64 0, .int .i64 0, .int .i64 0, .int .i64 0, .slice none 0 0]) (t := 118) ?hr ?_; (case hd => rfl); (case hg => rfl); (case hr => first | (go_simp; done) | (go_simp; rfl)); intro gb321 hg w4 hbox hb; have n0_ := Aside0.mk (blk_below (g := gb320) (o := .cells #[.int .i64 a0_0, .int .i64 a0_1, .int .i64 a0_2, .int .i64 a0_3, .slice A0_4 l0_4.length c0_4] 154 (0, 0)) (by (with_reducible repeat (first | refine blk_drewN ?_ _ | refine blk_drew ?_ | refine blk_alloc ?_ _)); exact BK320.out) hb); have n1_ := Aside0.mk (below_step (by repeat (first | (with_reducible first | exact HB.out | apply below_alloc | apply pw_below_drewN | apply below_drew1 | refine below_set ?_ GE320.out) | exact HB.out)) hb); have n2_ := Aside0.mk (hbox); have n3_ := Aside0.mk ((by rw [hg]; exact (below_size (by repeat (first | (with_reducible first | exact HB.out | apply below_alloc | apply pw_below_drewN | apply below_drew1 | refine below_set ?_ GE320.out) | exact HB.out))) : w.heap.size ≤ gb321)); have n4_ := Aside0.mk ((by rw [hg]; exact (below_size (by repeat (first | (with_reducible first | exact HB.out | apply below_alloc | apply pw_below_drewN | apply below_drew1 | refine below_set ?_ GE320.out) | exact HB.out))) : w.heap.size ≤ gb321)); have n5_ := Aside0.mk ((by rw [hg]; exact Nat.ne_of_lt (blk_lt (g := gb320) (o := .cells #[.int .i64 a0_0, .int .i64 a0_1, .int .i64 a0_2, .int .i64 a0_3, .slice A0_4 l0_4.length c0_4] 154 (0, 0)) (by (with_reducible repeat (first | refine blk_drewN ?_ _ | refine blk_drew ?_ | refine blk_alloc ?_ _)); exact BK320.out)) : gb320 ≠ gb321)); have n6_ := Aside0.mk ((by rw [hg]; exact Nat.ne_of_gt (blk_lt (g := gb320) (o := .cells #[.int .i64 a0_0, .int .i64 a0_1, .int .i64 a0_2, .int .i64 a0_3, .slice A0_4 l0_4.length c0_4] 154 (0, 0)) (by (with_reducible repeat (first | refine blk_drewN ?_ _ | refine blk_drew ?_ | refine blk_alloc ?_ _)); exact BK320.out)) : gb321 ≠ gb320)); clear BK320; clear HB; have BK320 := n0_; have HB := n1_; have BK321 := n2_; have GW321 := n3_; have GE321 := n4_; have NB320_321 := n5_; have NB321_320 := n6_; clear n0_ n1_ n2_ n3_ n4_ n5_ n6_; clear hb hbox hg) | ((with_reducible refine gate_dst (N := 3) rfl ?_); refine box_event ?hg (N := 3) ?hd (cs := #[.int .i64 0, .int .i64 0, .int .i64 0, .int .i64 0, .slice none 0 0]) (t := 118) ?hr ?_; (case hd => rfl); (case hg => rfl); (case hr => first | (go_simp; done) | (go_simp; rfl)); intro gb322 hg w5 hbox hb; have n0_ := Aside0.mk (blk_below (g := gb320) (o := .cells #[.int .i64 a0_0, .int .i64 a0_1, .int .i64 a0_2, .int .i64 a0_3, .slice A0_4 l0_4.length c0_4] 154 (0, 0)) (by (with_reducible repeat (first | refine blk_drewN ?_ _ | refine blk_drew ?_ | refine blk_alloc ?_ _)); exact BK320.out) hb); have n1_ := Aside0.mk (blk_below (g := gb321) (o := .cells #[.int .i64 0, .int .i64 0, .int .i64 0, .int .i64 0, .slice none 0 0] 118 (0, 0)) (by (with_reducible repeat (first | refine blk_drewN ?_ _ | refine blk_drew ?_ | refine blk_alloc ?_ _)); exact BK321.out) hb); have n2_ := Aside0.mk (below_step (by repeat (first | (with_reducible first | exact HB.out | apply below_alloc | apply pw_below_drewN | apply below_drew1 | refine below_set ?_ GE320.out | refine below_set ?_ GE321.out) | exact HB.out)) hb); have n3_ := Aside0.mk (hbox); have n4_ := Aside0.mk ((by rw [hg]; exact (below_size (by repeat (first | (with_reducible first | exact HB.out | apply below_alloc | apply pw_below_drewN | apply below_drew1 | refine below_set ?_ GE320.out | refine below_set ?_ GE321.out) | exact HB.out))) : w.heap.size ≤ gb322)); have n5_ := Aside0.mk ((by rw [hg]; exact (below_size (by repeat (first | (with_reducible first | exact HB.out | apply below_alloc | apply pw_below_drewN | apply below_drew1 | refine below_set ?_ GE320.out | refine below_set ?_ GE321.out) | exact HB.out))) : w.heap.size ≤ gb322)); have n6_ := Aside0.mk ((by rw [hg]; exact Nat.ne_of_lt (blk_lt (g := gb320) (o := .cells #[.int .i64 a0_0, .int .i64 a0_1, .int .i64 a0_2, .int .i64 a0_3, .slice A0_4 l0_4.length c0_4] 154 (0, 0)) (by (with_reducible repeat (first | refine blk_drewN ?_ _ | refine blk_drew ?_ | refine blk_alloc ?_ _)); exact BK320.out)) : gb320 ≠ gb322)); have n7_ := Aside0.mk ((by rw [hg]; exact Nat.ne_of_gt (blk_lt (g := gb320) (o := .cells #[.int .i64 a0_0, .int .i64 a0_1, .int .i64 a0_2, .int .i64 a0_3, .slice A0_4 l0_4.length c0_4] 154 (0, 0)) (by (with_reducible repeat (first | refine blk_drewN ?_ _ | refine blk_drew ?_ | refine blk_alloc ?_ _)); exact BK320.out)) : gb322 ≠ gb320)); have n8_ := Aside0.mk ((by rw [hg]; exact Nat.ne_of_lt (blk_lt (g := gb321) (o := .cells #[.int .i64 0, .int .i64 0, .int .i64 0, .int .i64 0, .slice none 0 0] 118 (0, 0)) (by (with_reducible repeat (first | refine blk_drewN ?_ _ | refine blk_drew ?_ | refine blk_alloc ?_ _)); exact BK321.out)) : gb321 ≠ gb322)); have n9_ := Aside0.mk ((by rw [hg]; exact Nat.ne_of_gt (blk_lt (g := gb321) (o := .cells #[.int .i64 0, .int .i64 0, .int .i64 0, .int .i64 0, .slice none 0 0] 118 (0, 0)) (by (with_reducible repeat (first | refine blk_drewN ?_ _ | refine blk_drew ?_ | refine blk_alloc ?_ _)); exact BK321.out)) : gb322 ≠ gb321)); clear BK320; clear BK321; clear HB; have BK320 := n0_; have BK321 := n1_; have HB := n2_; have BK322 := n3_; have GW322 := n4_; have GE322 := n5_; have NB320_322 := n6_; have NB322_320 := n7_; have NB321_322 := n8_; have NB322_321 := n9_; clear n0_ n1_ n2_ n3_ n4_ n5_ n6_ n7_ n8_ n9_; clear hb hbox hg; have hnb6 := NB320_321.out; have hnc6 := NB321_320.out; have hnb7 := NB320_322.out; have hnc7 := NB322_320.out; have hcz8_0 : w5.cell? ⟨gb320, 0, none⟩ = some (.int .i64 a0_0) := (blk_cell BK320.out 0).trans rfl; have hcz8_1 : w5.cell? ⟨gb320, 1, none⟩ = some (.int .i64 a0_1) := (blk_cell BK320.out 1).trans rfl; have hcz8_2 : w5.cell? ⟨gb320, 2, none⟩ = some (.int .i64 a0_2) := (blk_cell BK320.out 2).trans rfl; have hcz8_3 : w5.cell? ⟨gb320, 3, none⟩ = some (.int .i64 a0_3) := (blk_cell BK320.out 3).trans rfl; have hcz8_4 : w5.cell? ⟨gb320, 4, none⟩ = some (.slice A0_4 l0_4.length c0_4) := (blk_cell BK320.out 4).trans rfl; have hfz8_0 := blk_frozen BK320.out 0; have hfz8_1 := blk_frozen BK320.out 1; have hfz8_2 := blk_frozen BK320.out 2; have hfz8_3 := blk_frozen BK320.out 3; have hfz8_4 := blk_frozen BK320.out 4; have hnb9 := NB322_321.out; have hnc9 := NB321_322.out; have hcz10_0 : w5.cell? ⟨gb322, 0, none⟩ = some (.int .i64 0) := (blk_cell BK322.out 0).trans rfl; have hcz10_1 : w5.cell? ⟨gb322, 1, none⟩ = some (.int .i64 0) := (blk_cell BK322.out 1).trans rfl; have hcz10_2 : w5.cell? ⟨gb322, 2, none⟩ = some (.int .i64 0) := (blk_cell BK322.out 2).trans rfl; have hcz10_3 : w5.cell? ⟨gb322, 3, none⟩ = some (.int .i64 0) := (blk_cell BK322.out 3).trans rfl; have hcz10_4 : w5.cell? ⟨gb322, 4, none⟩ = some (.slice none 0 0) := (blk_cell BK322.out 4).trans rfl; have hfz10_0 := blk_frozen BK322.out 0; have hfz10_1 := blk_frozen BK322.out 1; have hfz10_2 := blk_frozen BK322.out 2; have hfz10_3 := blk_frozen BK322.out 3; have hfz10_4 := blk_frozen BK322.out 4) | ((with_reducible refine gate_callee (f := 80) rfl ?_); refine goesL_ (some 9) rfl rfl Try.func80 (by kernel_rfl) rfl #[.agg #[.int .i64 a0_1, .int .i64 a0_2, .int .i64 a0_3, .slice A0_4 l0_4.length c0_4]] rfl (by (try simp only [List.map_toArray, List.map_cons, List.map_nil]); first | done | rfl | (simp only [List.length_drop, List.length_take]; rfl)) ?_; (with_reducible refine (laws_toMeta.calls k a0_1 a0_2 a0_3 _ _ l0_4 t323 t324 t325 t326 _ ?side1 ?side2 A2.out).mono ?_); (case side1 => exact Kd.C_below HR0_4.out (by repeat (first | (with_reducible first | exact HB.out | apply below_alloc | apply pw_below_drewN | apply below_drew1 | refine below_set ?_ GE320.out | refine below_set ?_ GE321.out | refine below_set ?_ GE322.out) | exact HB.out))); (case side2 => exact HC0_4.out); rintro e w11 ⟨v327, rfl, ho0, hb⟩; refine ⟨_, rfl, ?_⟩; (first | have rs_v327 := one_store (P := Try.prog) ho0 | have rs_v327 := one_store (P := Try.prog) (Kd.S_R ho0) | skip); have n0_ := Aside0.mk (Kd.S_lower ho0 (below_size (by repeat (first | (with_reducible first | exact HB.out | apply below_alloc | apply pw_below_drewN | apply below_drew1 | refine below_set ?_ GE320.out | refine below_set ?_ GE321.out | refine below_set ?_ GE322.out) | exact HB.out)))); have n1_ := Aside0.mk (blk_below (g := gb320) (o := .cells #[.int .i64 a0_0, .int .i64 a0_1, .int .i64 a0_2, .int .i64 a0_3, .slice A0_4 l0_4.length c0_4] 154 (0, 0)) (by (with_reducible repeat (first | refine blk_drewN ?_ _ | refine blk_drew ?_ | refine blk_alloc ?_ _)); refine blk_far ?_ NB320_322.out _; (with_reducible repeat (first | refine blk_drewN ?_ _ | refine blk_drew ?_ | refine blk_alloc ?_ _)); exact BK320.out) hb); have n2_ := Aside0.mk (blk_below (g := gb321) (o := .cells #[.int .i64 0, .int .i64 0, .int .i64 0, .int .i64 0, .slice none 0 0] 118 (0, 0)) (by (with_reducible repeat (first | refine blk_drewN ?_ _ | refine blk_drew ?_ | refine blk_alloc ?_ _)); refine blk_far ?_ NB321_322.out _; (with_reducible repeat (first | refine blk_drewN ?_ _ | refine blk_drew ?_ | refine blk_alloc ?_ _)); exact BK321.out) hb); have n3_ := Aside0.mk (blk_below (g := gb322) (o := .cells #[.int .i64 a0_0, .int .i64 0, .int .i64 0, .int .i64 0, .slice none 0 0] 118 (0, 0)) (by (with_reducible repeat (first | refine blk_drewN ?_ _ | refine blk_drew ?_ | refine blk_alloc ?_ _)); refine blk_put (cs := #[.int .i64 0, .int .i64 0, .int .i64 0, .int .i64 0, .slice none 0 0]) ?_ 0 _ rfl; (with_reducible repeat (first | refine blk_drewN ?_ _ | refine blk_drew ?_ | refine blk_alloc ?_ _)); exact BK322.out) hb); have n4_ := Aside0.mk (below_step (by repeat (first | (with_reducible first | exact HB.out | apply below_alloc | apply pw_below_drewN | apply below_drew1 | refine below_set ?_ GE320.out | refine below_set ?_ GE321.out | refine below_set ?_ GE322.out) | exact HB.out)) hb); clear BK320; clear BK321; clear BK322; clear HB; have HO328 := n0_; have BK320 := n1_; have BK321 := n2_; have BK322 := n3_; have HB := n4_; clear n0_ n1_ n2_ n3_ n4_; (try clear hb); (try clear hb2); (try clear hk); (try clear hi); (try clear ho0); have hcz12_0 : w11.cell? ⟨gb322, 0, none⟩ = some (.int .i64 a0_0) := (blk_cell BK322.out 0).trans rfl; have hcz12_1 : w11.cell? ⟨gb322, 1, none⟩ = some (.int .i64 0) := (blk_cell BK322.out 1).trans rfl; have hcz12_2 : w11.cell? ⟨gb322, 2, none⟩ = some (.int .i64 0) := (blk_cell BK322.out 2).trans rfl; have hcz12_3 : w11.cell? ⟨gb322, 3, none⟩ = some (.int .i64 0) := (blk_cell BK322.out 3).trans rfl; have hcz12_4 : w11.cell? ⟨gb322, 4, none⟩ = some (.slice none 0 0) := (blk_cell BK322.out 4).trans rfl; have hfz12_0 := blk_frozen BK322.out 0; have hfz12_1 := blk_frozen BK322.out 1; have hfz12_2 := blk_frozen BK322.out 2; have hfz12_3 := blk_frozen BK322.out 3; have hfz12_4 := blk_frozen BK322.out 4; obtain ⟨Ao13, co13, eo13⟩ := Kd.S_slice HO328.out; subst eo13; have hcz14_0 : w11.cell? ⟨gb321, 0, none⟩ = some (.int .i64 0) := (blk_cell BK321.out 0).trans rfl; have hcz14_1 : w11.cell? ⟨gb321, 1, none⟩ = some (.int .i64 0) := (blk_cell BK321.out 1).trans rfl; have hcz14_2 : w11.cell? ⟨gb321, 2, none⟩ = some (.int .i64 0) := (blk_cell BK321.out 2).trans rfl; have hcz14_3 : w11.cell? ⟨gb321, 3, none⟩ = some (.int .i64 0) := (blk_cell BK321.out 3).trans rfl; have hcz14_4 : w11.cell? ⟨gb321, 4, none⟩ = some (.slice none 0 0) := (blk_cell BK321.out 4).trans rfl; have hfz14_0 := blk_frozen BK321.out 0; have hfz14_1 := blk_frozen BK321.out 1; have hfz14_2 := blk_frozen BK321.out 2; have hfz14_3 := blk_frozen BK321.out 3; have hfz14_4 := blk_frozen BK321.out 4))
 refine bodyPost_ret (results_cell_row rfl _ _ gb321 118 #[.int .i64 a0_0, .int .i64 t323, .int .i64 t324, .int .i64 t325, .slice Ao13 t326.length co13] (0, 0) _ rfl (by (with_reducible repeat (first | refine blk_drewN ?_ _ | refine blk_drew ?_ | refine blk_alloc ?_ _)); refine blk_put (cs := #[.int .i64 a0_0, .int .i64 t323, .int .i64 t324, .int .i64 t325, .slice none 0 0]) ?_ 4 _ rfl; (with_reducible repeat (first | refine blk_drewN ?_ _ | refine blk_drew ?_ | refine blk_alloc ?_ _)); refine blk_put (cs := #[.int .i64 a0_0, .int .i64 t323, .int .i64 t324, .int .i64 0, .slice none 0 0]) ?_ 3 _ rfl; (with_reducible repeat (first | refine blk_drewN ?_ _ | refine blk_drew ?_ | refine blk_alloc ?_ _)); refine blk_put (cs := #[.int .i64 a0_0, .int .i64 t323, .int .i64 0, .int .i64 0, .slice none 0 0]) ?_ 2 _ rfl; (with_reducible repeat (first | refine blk_drewN ?_ _ | refine blk_drew ?_ | refine blk_alloc ?_ _)); refine blk_put (cs := #[.int .i64 a0_0, .int .i64 0, .int .i64 0, .int .i64 0, .slice none 0 0]) ?_ 1 _ rfl; (with_reducible repeat (first | refine blk_drewN ?_ _ | refine blk_drew ?_ | refine blk_alloc ?_ _)); refine blk_put (cs := #[.int .i64 0, .int .i64 0, .int .i64 0, .int .i64 0, .slice none 0 0]) ?_ 0 _ rfl; (with_reducible repeat (first | refine blk_drewN ?_ _ | refine blk_drew ?_ | refine blk_alloc ?_ _)); refine blk_far ?_ NB321_322.out _; (with_reducible repeat (first | refine blk_drewN ?_ _ | refine blk_drew ?_ | refine blk_alloc ?_ _)); refine blk_far ?_ NB321_322.out _; (with_reducible repeat (first | refine blk_drewN ?_ _ | refine blk_drew ?_ | refine blk_alloc ?_ _)); refine blk_far ?_ NB321_322.out _; (with_reducible repeat (first | refine blk_drewN ?_ _ | refine blk_drew ?_ | refine blk_alloc ?_ _)); refine blk_far ?_ NB321_322.out _; (with_reducible repeat (first | refine blk_drewN ?_ _ | refine blk_drew ?_ | refine blk_alloc ?_ _)); exact BK321.out) Try.underlying118 rfl (by kernel_rfl)) rfl ?_
 exact ⟨_, by first | rfl | (simp [errW_none, errW_some] <;> rfl) | (simp [*, errW_none, errW_some] <;> rfl), by (with_reducible repeat (first | apply Kd.S_alloc | apply Kd.S_drewN | apply Kd.S_drew)); exact Kd.S_mono (Kd.S_far (p := ⟨gb321, 4, none⟩) (Kd.S_far (p := ⟨gb321, 3, none⟩) (Kd.S_far (p := ⟨gb321, 2, none⟩) (Kd.S_far (p := ⟨gb321, 1, none⟩) (Kd.S_far (p := ⟨gb321, 0, none⟩) (Kd.S_far (p := ⟨gb322, 4, none⟩) (Kd.S_far (p := ⟨gb322, 3, none⟩) (Kd.S_far (p := ⟨gb322, 2, none⟩) (Kd.S_far (p := ⟨gb322, 1, none⟩) (Kd.S_types (Kd.S_types HO328.out BK322.out (by decide)) BK321.out (by decide)) (fun _ hk => hk.1.2) (.int .i64 t323)) (fun _ hk => hk.1.2) (.int .i64 t324)) (fun _ hk => hk.1.2) (.int .i64 t325)) (fun _ hk => hk.1.2) (.slice Ao13 t326.length co13)) (fun _ hk => hk.2) (.int .i64 a0_0)) (fun _ hk => hk.2) (.int .i64 t323)) (fun _ hk => hk.2) (.int .i64 t324)) (fun _ hk => hk.2) (.int .i64 t325)) (fun _ hk => hk.2) (.slice Ao13 t326.length co13)) (fun _ hk => trivial), by repeat (first | (with_reducible first | exact HB.out | apply below_alloc | apply pw_below_drewN | apply below_drew1 | refine below_set ?_ GE320.out | refine below_set ?_ GE321.out | refine below_set ?_ GE322.out) | exact HB.out)⟩
def laws_eqFree.f (k : Nat) (a0_0 : Int) (l0_1 : List Int) (a1_0 : Int) (l1_1 : List Int) : Option (Bool) := if a0_0 = a1_0 then ((laws_eqIntS.f k l0_1 l1_1).bind fun t116 => (if t116 = true then (some true) else (none))) else (none)
theorem laws_eqFree.calls (k : Nat) (a0_0 : Int) (A0_1 : Option Addr) (c0_1 : Nat) (l0_1 : List Int) (a1_0 : Int) (A1_1 : Option Addr) (c1_1 : Nat) (l1_1 : List Int) (r : Bool) (w : World) (hr0_1 : Kd.C (Kd.int .i64) w A0_1 l0_1.length l0_1) (hc0_1 : l0_1.length ≤ c0_1) (hr1_1 : Kd.C (Kd.int .i64) w A1_1 l1_1.length l1_1) (hc1_1 : l1_1.length ≤ c1_1) (h : laws_eqFree.f k a0_0 l0_1 a1_0 l1_1 = some r) :
  Calls Try.prog 146 #[.agg #[.int .i64 a0_0, .slice A0_1 l0_1.length c0_1], .agg #[.int .i64 a1_0, .slice A1_1 l1_1.length c1_1]] w fun e w' => e = .returned (.bool r) ∧ Below w.heap.size w w' := by
 have hu122 := Try.underlying122
 have HR0_1 := Aside0.mk hr0_1
 have HC0_1 := Aside0.mk hc0_1
 clear hr0_1 hc0_1
 have HR1_1 := Aside0.mk hr1_1
 have HC1_1 := Aside0.mk hc1_1
 clear hr1_1 hc1_1
 have HB := Aside0.mk (Below.refl w.heap.size w)
 have H : (if a0_0 = a1_0 then ((laws_eqIntS.f k l0_1 l1_1).bind fun t116 => (if t116 = true then (some true) else (none))) else (none)) = some r := h
 clear h
 by_cases c3 : a0_0 = a1_0
 ·rw [if_pos c3] at H
  have c3b0 : (a0_0 == a1_0) = true := beq_iff_eq.mpr c3
  have c3b1 : (a0_0 != a1_0) = false := bne_eq_false_iff_eq.mpr c3
  clear c3
  replace H := Option.bind_eq_some_iff.mp H
  obtain ⟨t116, A40, H⟩ := H
  replace H : (if t116 = true then (some true) else (none)) = some r := H
  have A4 := Aside0.mk A40
  clear A40
  by_cases c5 : t116 = true
  ·subst c5
   have H1 : (some true) = some r := by rw [if_pos rfl] at H; exact H
   clear H
   have H := H1
   clear H1
   obtain rfl := Option.some.inj H
   go_enter Try.func146, Try.ntmps146
   go_wp2_with (first | ((with_reducible refine gate_dst (N := 2) rfl ?_); refine box_event ?hg (N := 2) ?hd (cs := #[.int .i64 a0_0, .slice A0_1 l0_1.length c0_1]) (t := 122) ?hr ?_; (case hd => rfl); (case hg => rfl); (case hr => first | (go_simp; done) | (go_simp; rfl)); intro gb114 hg w6 hbox hb; have n0_ := Aside0.mk (below_step (by repeat (first | (with_reducible first | exact HB.out | apply below_alloc | apply pw_below_drewN | apply below_drew1) | exact HB.out)) hb); have n1_ := Aside0.mk (hbox); have n2_ := Aside0.mk ((by rw [hg]; exact (below_size (by repeat (first | (with_reducible first | exact HB.out | apply below_alloc | apply pw_below_drewN | apply below_drew1) | exact HB.out))) : w.heap.size ≤ gb114)); have n3_ := Aside0.mk ((by rw [hg]; exact (below_size (by repeat (first | (with_reducible first | exact HB.out | apply below_alloc | apply pw_below_drewN | apply below_drew1) | exact HB.out))) : w.heap.size ≤ gb114)); clear HB; have HB := n0_; have BK114 := n1_; have GW114 := n2_; have GE114 := n3_; clear n0_ n1_ n2_ n3_; clear hb hbox hg) | ((with_reducible refine gate_dst (N := 3) rfl ?_); refine box_event ?hg (N := 3) ?hd (cs := #[.int .i64 a1_0, .slice A1_1 l1_1.length c1_1]) (t := 122) ?hr ?_; (case hd => rfl); (case hg => rfl); (case hr => first | (go_simp; done) | (go_simp; rfl)); intro gb115 hg w7 hbox hb; have n0_ := Aside0.mk (blk_below (g := gb114) (o := .cells #[.int .i64 a0_0, .slice A0_1 l0_1.length c0_1] 122 (0, 0)) (by (with_reducible repeat (first | refine blk_drewN ?_ _ | refine blk_drew ?_ | refine blk_alloc ?_ _)); exact BK114.out) hb); have n1_ := Aside0.mk (below_step (by repeat (first | (with_reducible first | exact HB.out | apply below_alloc | apply pw_below_drewN | apply below_drew1 | refine below_set ?_ GE114.out) | exact HB.out)) hb); have n2_ := Aside0.mk (hbox); have n3_ := Aside0.mk ((by rw [hg]; exact (below_size (by repeat (first | (with_reducible first | exact HB.out | apply below_alloc | apply pw_below_drewN | apply below_drew1 | refine below_set ?_ GE114.out) | exact HB.out))) : w.heap.size ≤ gb115)); have n4_ := Aside0.mk ((by rw [hg]; exact (below_size (by repeat (first | (with_reducible first | exact HB.out | apply below_alloc | apply pw_below_drewN | apply below_drew1 | refine below_set ?_ GE114.out) | exact HB.out))) : w.heap.size ≤ gb115)); have n5_ := Aside0.mk ((by rw [hg]; exact Nat.ne_of_lt (blk_lt (g := gb114) (o := .cells #[.int .i64 a0_0, .slice A0_1 l0_1.length c0_1] 122 (0, 0)) (by (with_reducible repeat (first | refine blk_drewN ?_ _ | refine blk_drew ?_ | refine blk_alloc ?_ _)); exact BK114.out)) : gb114 ≠ gb115)); have n6_ := Aside0.mk ((by rw [hg]; exact Nat.ne_of_gt (blk_lt (g := gb114) (o := .cells #[.int .i64 a0_0, .slice A0_1 l0_1.length c0_1] 122 (0, 0)) (by (with_reducible repeat (first | refine blk_drewN ?_ _ | refine blk_drew ?_ | refine blk_alloc ?_ _)); exact BK114.out)) : gb115 ≠ gb114)); clear BK114; clear HB; have BK114 := n0_; have HB := n1_; have BK115 := n2_; have GW115 := n3_; have GE115 := n4_; have NB114_115 := n5_; have NB115_114 := n6_; clear n0_ n1_ n2_ n3_ n4_ n5_ n6_; clear hb hbox hg; have hnb8 := NB114_115.out; have hnc8 := NB115_114.out; have hcz9_0 : w7.cell? ⟨gb114, 0, none⟩ = some (.int .i64 a0_0) := (blk_cell BK114.out 0).trans rfl; have hcz9_1 : w7.cell? ⟨gb114, 1, none⟩ = some (.slice A0_1 l0_1.length c0_1) := (blk_cell BK114.out 1).trans rfl; have hfz9_0 := blk_frozen BK114.out 0; have hfz9_1 := blk_frozen BK114.out 1; have hcz10_0 : w7.cell? ⟨gb115, 0, none⟩ = some (.int .i64 a1_0) := (blk_cell BK115.out 0).trans rfl; have hcz10_1 : w7.cell? ⟨gb115, 1, none⟩ = some (.slice A1_1 l1_1.length c1_1) := (blk_cell BK115.out 1).trans rfl; have hfz10_0 := blk_frozen BK115.out 0; have hfz10_1 := blk_frozen BK115.out 1) | ((with_reducible refine gate_callee (f := 50) rfl ?_); refine goesL_ (some 14) rfl rfl Try.func50 (by kernel_rfl) rfl #[.slice A0_1 l0_1.length c0_1, .slice A1_1 l1_1.length c1_1] rfl (by (try simp only [List.map_toArray, List.map_cons, List.map_nil]); first | done | rfl | (simp only [List.length_drop, List.length_take]; rfl)) ?_; (with_reducible refine (laws_eqIntS.calls k _ _ l0_1 _ _ l1_1 true _ ?side1 ?side2 ?side3 ?side4 A4.out).mono ?_); (case side1 => repeat (first | exact (Kd.C_below HR0_1.out HB.out) | (with_reducible refine Kd.C_alloc ?_ _) | (with_reducible refine Kd.C_drewN ?_ _) | (with_reducible refine Kd.C_drew ?_))); (case side2 => exact HC0_1.out); (case side3 => repeat (first | exact (Kd.C_below HR1_1.out HB.out) | (with_reducible refine Kd.C_alloc ?_ _) | (with_reducible refine Kd.C_drewN ?_ _) | (with_reducible refine Kd.C_drew ?_))); (case side4 => exact HC1_1.out); rintro e w' ⟨rfl, ⟨nd, rfl⟩⟩; refine ⟨_, rfl, ?_⟩))
   go_ret
   exact ⟨by first | rfl | (simp [errW_none, errW_some] <;> rfl) | (simp [*, errW_none, errW_some] <;> rfl), by repeat (first | (with_reducible first | exact HB.out | apply below_alloc | apply pw_below_drewN | apply below_drew1 | refine below_set ?_ GE114.out | refine below_set ?_ GE115.out) | exact HB.out)⟩
  ·replace c5 := Bool.eq_false_iff.mpr c5
   subst c5
   have H1 : (none) = some r := by rw [if_neg (show ¬ (false = true) by decide)] at H; exact H
   clear H
   have H := H1
   clear H1
   exact absurd H (by simp)
 ·rw [if_neg c3] at H
  exact absurd H (by simp)
end Go.Proofs.Ytonhdiemjgdcnaa.PFnExactGivePage
