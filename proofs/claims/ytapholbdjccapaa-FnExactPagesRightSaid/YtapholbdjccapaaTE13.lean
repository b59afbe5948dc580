import Derived.Test.YtapholbdjccapaaTE12
import Derived.ProofKit
import Derived.OpenShut
import Derived.Deep.Slices
set_option maxHeartbeats 64000000
set_option maxRecDepth 100000
set_option linter.unusedVariables false
set_option linter.unusedSimpArgs false
namespace Go.Proofs.Ytapholbdjccapaa.PFnExactTreeOk
open Go.RowKit Go.Proofs.YtapholbdjccapaaW.PrintWords Go.Proofs.YtapholbdjccapaaW.PrintLast Go.Proofs.YtapholbdjccapaaW.PrintMore
attribute [local go_sem] max2_int min2_int max_two min_two max_three min_three max_four min_four
theorem rd_T198_nat (xs : List S198) (k : Nat) (hk : k < xs.length) : rd_T198 xs (k : Int) = xs[k] := by
 simp [rd_T198, List.getD_eq_getElem?_getD, List.getElem?_eq_getElem hk]
def sumF (l : List S198) : Nat := ((l.map S198.f1).flatten).length
theorem sumF_cons (x : S198) (l : List S198) : sumF (x :: l) = x.f1.length + sumF l := by simp [sumF]
theorem szF_go (l : List S198) (hs : ∀ s ∈ l, s.f1.length ≤ 9223372036854775807) (hl : l.length ≤ 9223372036854775807) : ∀ (n i : Nat) (x : Int), i + n = l.length → 0 ≤ x → x ≤ 1048576 → ∃ r, laws_szFreeS.l0 (n + 1) l x (i : Int) = some r ∧ (r < 0 ∨ (0 ≤ r ∧ r ≤ x ∧ (sumF (l.drop i) : Int) ≤ x)) := by
 intro n
 induction n with
 | zero =>
  intro i x hi h0 h1
  refine ⟨x, ?_, .inr ⟨h0, Int.le_refl _, by rw [List.drop_eq_nil_of_le (by omega)]; simpa [sumF] using h0⟩⟩
  rw [laws_szFreeS.l0, if_neg (by omega)]
 | succ n ih =>
  intro i x hi h0 h1
  have hlt : i < l.length := by omega
  have hsz := hs l[i] (List.getElem_mem hlt)
  have hdr : sumF (l.drop i) = l[i].f1.length + sumF (l.drop (i + 1)) := by rw [List.drop_eq_getElem_cons hlt, sumF_cons]
  rw [laws_szFreeS.l0, if_pos (by omega), if_pos (by omega), rd_T198_nat _ _ hlt, laws_szFree.f, laws_szIntS.f, wrap_in (x := x - _) (by omega) (by omega), wrap_in (x := (i : Int) + 1) (by omega) (by omega)]
  by_cases hneg : x - (l[i].f1.length : Int) < 0
  ·rw [if_pos hneg, Option.bind_some, if_pos (by omega), Option.bind_some, if_pos (by omega)]
   exact ⟨-1, rfl, .inl (by omega)⟩
  ·rw [if_neg hneg, Option.bind_some, if_neg hneg, Option.bind_some, if_neg hneg]
   obtain ⟨r, h2, h3⟩ := ih (i + 1) (x - (l[i].f1.length : Int)) (by omega) (by omega) (by omega)
   refine ⟨r, by rw [show (i : Int) + 1 = ((i + 1 : Nat) : Int) by omega]; exact h2, ?_⟩
   rcases h3 with h3 | ⟨h4, h5, h6⟩
   ·exact .inl h3
   ·exact .inr ⟨h4, by omega, by rw [hdr]; omega⟩
theorem szM_ev (m0 m1 m2 : Int) (l : List S198) (hs : ∀ s ∈ l, s.f1.length ≤ 9223372036854775807) (hl : l.length ≤ 9223372036854775807) (x : Int) (h0 : 0 ≤ x) (h1 : x ≤ 1048576) : ∃ r, Ev (fun k => laws_szMeta.f k m0 m1 m2 l x) r ∧ (r < 0 ∨ (¬ r < 0 ∧ r ≤ x ∧ l.length ≤ 1048576 ∧ sumF l ≤ 1048576)) := by
 by_cases hneg : x - (l.length : Int) < 0
 ·refine ⟨-1, Ev.of (k := 0) (fun k => laws_szMeta.mono _ _ _ _ _ k) ?_, .inl (by omega)⟩
  unfold laws_szMeta.f laws_szFreeS.f
  rw [wrap_in (by omega) (by omega), if_pos hneg, Option.bind_some, if_pos (by omega)]
 ·obtain ⟨r, h2, h3⟩ := szF_go l hs hl l.length 0 (x - (l.length : Int)) (by omega) (by omega) (by omega)
  have hev : ∀ r', (laws_szFreeS.l0 (l.length + 1) l (x - (l.length : Int)) 0 = some r) → (if r < 0 then -1 else r) = r' → Ev (fun k => laws_szMeta.f k m0 m1 m2 l x) r' := fun r' h e => by
   refine Ev.of (k := l.length + 1) (fun k => laws_szMeta.mono _ _ _ _ _ k) ?_
   unfold laws_szMeta.f laws_szFreeS.f
   rw [wrap_in (by omega) (by omega), if_neg hneg, h, Option.bind_some, ← e]
   split <;> rfl
  rcases h3 with h3 | ⟨h4, h5, h6⟩
  ·exact ⟨-1, hev _ h2 (if_pos h3), .inl (by omega)⟩
  ·refine ⟨r, hev _ h2 (if_neg (by omega)), .inr ⟨by omega, by omega, by omega, ?_⟩⟩
   rw [List.drop_zero] at h6
   omega
theorem szD_le (pages : List ByteArray) (late : List S187) (h1 : ∀ s ∈ pages, s.size ≤ 9223372036854775807) (h2 : pages.length ≤ 9223372036854775807) (h3 : ∀ s ∈ late, s.f1.size ≤ 9223372036854775807) (h4 : late.length ≤ 9223372036854775807) (r : Int) (h : Ev (fun k => laws_szDisk.f k pages late 1048576) r) : r ≤ 1048576 := by
 have huniq : ∀ {a b : Int} {g : Nat → Option Int}, Ev g a → Ev g b → a = b := fun ⟨K, ha⟩ ⟨K', hb⟩ => by
  have h5 := ha (K + K') (by omega)
  rw [hb (K + K') (by omega)] at h5
  injection h5 with h5
  exact h5.symm
 obtain ⟨a, ea, ha⟩ := szS_ev pages h1 h2 1048576 (by omega) (by omega)
 rcases ha with ha | ⟨a0, a1, a2, a3⟩
 ·have e := huniq h (Ev.bind ea (r := -1) (by simp only [if_pos ha]; exact Ev.now _)); omega
 ·obtain ⟨b, eb, hb⟩ := szP_ev late h3 h4 a a0 a1
  rcases hb with hb | ⟨b0, b1, b2, b3⟩
  ·have e := huniq h (Ev.bind ea (r := -1) (by simp only [if_neg (show ¬ a < 0 by omega)]; refine Ev.bind eb ?_; simp only [if_pos hb]; exact Ev.now _)); omega
  ·have e := huniq h (Ev.bind ea (r := b) (by simp only [if_neg (show ¬ a < 0 by omega)]; refine Ev.bind eb ?_; simp only [if_neg (show ¬ b < 0 by omega)]; exact Ev.now _)); omega
theorem toI_go (l : List Int) (hl : l.length ≤ 1048576) : ∀ (n i : Nat), i + n = l.length → laws_toIntS.l0 (n + 1) l (l.take i ++ List.replicate n 0) (i : Int) = some l := by
 intro n
 induction n with
 | zero =>
  intro i hi
  rw [laws_toIntS.l0, if_neg (by omega), List.replicate_zero, List.append_nil, List.take_of_length_le (by omega)]
 | succ n ih =>
  intro i hi
  have hlt : i < l.length := by omega
  have hti : (l.take i).length = i := by rw [List.length_take]; omega
  rw [laws_toIntS.l0, if_pos (by omega), if_pos (by omega), if_pos (by simp; omega), rd_nat _ _ hlt, wrap_in (by omega) (by omega), Int.toNat_natCast, List.replicate_succ]
  have := set_front (l.take i) (List.replicate n (0 : Int)) 0 l[i]
  rw [hti] at this
  rw [this, List.take_append_getElem hlt, show (i : Int) + 1 = ((i + 1 : Nat) : Int) by omega]
  exact ih (i + 1) (by omega)
theorem toI_ev (l : List Int) (hl : l.length ≤ 1048576) : Ev (fun k => laws_toIntS.f k l) l := by
 refine Ev.of (k := l.length + 1) (fun k => laws_toIntS.mono _ k) ?_
 unfold laws_toIntS.f
 rw [if_pos (by omega), if_pos (by rw [Int.toNat_natCast]; omega), Int.toNat_natCast]
 have := toI_go l hl l.length 0 (by omega)
 simpa using this
def convF (x : S198) : S109 := ⟨x.f0, x.f1⟩
theorem toF_go (l : List S198) (hl : l.length ≤ 1048576) (hs : ∀ s ∈ l, s.f1.length ≤ 1048576) : ∀ (n i : Nat), i + n = l.length → Ev (fun k => laws_toFreeS.l0 k l ((l.map convF).take i ++ List.replicate n z109) (i : Int)) (l.map convF) := by
 intro n
 induction n with
 | zero =>
  intro i hi
  refine Ev.step (f := fun _ => some (l.map convF)) (fun k => ?_) (Ev.now _)
  rw [laws_toFreeS.l0, if_neg (by omega), List.replicate_zero, List.append_nil, List.take_of_length_le (by rw [List.length_map]; omega)]
 | succ n ih =>
  intro i hi
  have hlt : i < l.length := by omega
  have hlt' : i < (l.map convF).length := by rw [List.length_map]; exact hlt
  have hti : ((l.map convF).take i).length = i := by rw [List.length_take, List.length_map]; omega
  refine Ev.step (f := fun k => (laws_toIntS.f k l[i].f1).bind fun t => laws_toFreeS.l0 k l (((l.map convF).take i ++ z109 :: List.replicate n z109).set i ⟨l[i].f0, t⟩) ((i + 1 : Nat) : Int)) (fun k => ?_) (Ev.bind (toI_ev _ (hs _ (List.getElem_mem hlt))) ?_)
  ·rw [laws_toFreeS.l0, if_pos (by omega), if_pos (by omega), rd_T198_nat _ _ hlt, laws_toFree.f, wrap_in (by omega) (by omega), Int.toNat_natCast, List.replicate_succ]
   cases laws_toIntS.f k l[i].f1 with
   | none => rfl
   | some t =>
    simp only [Option.bind_some]
    rw [if_pos (by simp; omega)]
    rfl
  ·have := set_front ((l.map convF).take i) (List.replicate n z109) z109 (convF l[i])
   rw [hti] at this
   show Ev (fun k => laws_toFreeS.l0 k l (((l.map convF).take i ++ z109 :: List.replicate n z109).set i (convF l[i])) _) _
   rw [this, show convF l[i] = (l.map convF)[i] by rw [List.getElem_map], List.take_append_getElem hlt']
   exact ih (i + 1) (by omega)
theorem toM_ev (m0 m1 m2 : Int) (l : List S198) (hl : l.length ≤ 1048576) (hs : ∀ s ∈ l, s.f1.length ≤ 1048576) : Ev (fun k => laws_toMeta.f k m0 m1 m2 l) (m0, m1, m2, l.map convF) := by
 refine Ev.bind (a := l.map convF) ?_ (Ev.now _)
 have h := toF_go l hl hs l.length 0 (by omega)
 refine Ev.congr (f := fun k => laws_toFreeS.l0 k l ((l.map convF).take 0 ++ List.replicate l.length z109) 0) (fun k => ?_) h
 unfold laws_toFreeS.f
 rw [if_pos (by omega), if_pos (by rw [Int.toNat_natCast]; omega), Int.toNat_natCast, List.take_zero, List.nil_append]
theorem eqF_go (l : List S109) (hl : l.length ≤ 1048576) (hs : ∀ s ∈ l, s.f1.length ≤ 1048576) : ∀ (n i : Nat), i + n = l.length → Ev (fun k => laws_eqFreeS.l0 k l l (i : Int)) true := by
 intro n
 induction n with
 | zero =>
  intro i hi
  exact Ev.step (f := fun _ => some true) (fun k => by rw [laws_eqFreeS.l0, if_neg (by omega)]) (Ev.now _)
 | succ n ih =>
  intro i hi
  have hlt : i < l.length := by omega
  refine Ev.step (f := fun k => (laws_eqIntS.f k l[i].f1 l[i].f1).bind fun t => if t = true then laws_eqFreeS.l0 k l l ((i + 1 : Nat) : Int) else none) (fun k => ?_) (Ev.bind (eqI_ev _ (hs _ (List.getElem_mem hlt))) ?_)
  ·rw [laws_eqFreeS.l0, if_pos (by omega), if_pos (by omega), if_pos (by omega), rd_T109_nat _ _ hlt, laws_eqFree.f, if_pos rfl, wrap_in (by omega) (by omega)]
   cases laws_eqIntS.f k l[i].f1 l[i].f1 with
   | none => rfl
   | some t => cases t <;> rfl
  ·simp only [if_true]
   exact ih (i + 1) (by omega)
theorem eqM_ev (m0 m1 m2 : Int) (l : List S109) (hl : l.length ≤ 1048576) (hs : ∀ s ∈ l, s.f1.length ≤ 1048576) : Ev (fun k => laws_eqMeta.f k m0 m1 m2 l m0 m1 m2 l) true := by
 have h := eqF_go l hl hs l.length 0 (by omega)
 refine Ev.congr (f := fun k => (laws_eqFreeS.l0 k l l 0).bind fun t => if t = true then some true else none) (fun k => ?_) (Ev.bind h (Ev.now _))
 unfold laws_eqMeta.f laws_eqFreeS.f
 rw [if_pos rfl, if_pos rfl, if_pos rfl, if_pos rfl]
theorem flatF_conv (l : List S198) : (flatF (l.map convF)).length = sumF l := by
 unfold flatF sumF
 rw [List.map_map]
 rfl
theorem sumF_mem (l : List S198) (s : S198) (h : s ∈ l) : s.f1.length ≤ sumF l := by
 induction l with
 | nil => cases h
 | cons x l ih =>
  rw [sumF_cons]
  rcases List.mem_cons.1 h with rfl | h
  ·omega
  ·have := ih h; omega
theorem pagesRight_law (pages : List ByteArray) (late : List S187) (m0 m1 m2 : Int) (frees : List S198) (h1 : ∀ s ∈ pages, s.size ≤ 9223372036854775807) (h2 : pages.length ≤ 9223372036854775807) (h3 : ∀ s ∈ late, s.f1.size ≤ 9223372036854775807) (h4 : late.length ≤ 9223372036854775807) (h5 : ∀ s ∈ frees, s.f1.length ≤ 9223372036854775807) (h6 : frees.length ≤ 9223372036854775807)
  (A0 : Option Addr) (c0 : Nat) (A1 : Option Addr) (c1 : Nat) (A2 : Option Addr) (c2 : Nat) (w : World)
  (hp : Kd.C Kd.string w A0 pages.length pages) (hc0 : pages.length ≤ c0) (hl : Kd.C k187 w A1 late.length late) (hc1 : late.length ≤ c1) (hf : Kd.C k198 w A2 frees.length frees) (hc2 : frees.length ≤ c2) :
  Calls Try.prog 10 #[.agg #[.slice A0 pages.length c0, .slice A1 late.length c1], .agg #[.int .i64 m0, .int .i64 m1, .int .i64 m2, .slice A2 frees.length c2]] w fun e w' => e = .returned (.bool true) ∧ Below w.heap.size w w' := by
 obtain ⟨r, er0, hr⟩ := szD_ev pages late h1 h2 h3 h4
 have hrle := szD_le pages late h1 h2 h3 h4 r er0
 obtain ⟨K0, er⟩ := er0
 rcases hr with hr | ⟨hr, hs⟩
 ·exact FnExactPagesRight_small K0 A0 c0 pages A1 c1 late m0 m1 m2 A2 c2 frees r w hp hc0 hl hc1 hf hc2 (er K0 (Nat.le_refl _)) hr
 ·obtain ⟨r2, ⟨K7, er2⟩, hr2⟩ := szM_ev m0 m1 m2 frees h5 h6 r (by omega) hrle
  rcases hr2 with hr2 | ⟨hr2, _, hfl, hfs⟩
  ·obtain ⟨k, hk0, hk7⟩ : ∃ k, K0 ≤ k ∧ K7 ≤ k := ⟨K0 + K7, by omega, by omega⟩
   exact FnExactPagesRight_small2 k A0 c0 pages A1 c1 late m0 m1 m2 A2 c2 frees r w hp hc0 hl hc1 hf hc2 (er k hk0) hr r2 (er2 k hk7) hr2
  ·obtain ⟨K1, hto⟩ := toD_ev pages late hs
   have hsf : ∀ s ∈ frees, s.f1.length ≤ 1048576 := fun s h => Nat.le_trans (sumF_mem frees s h) hfs
   obtain ⟨K2, htm⟩ := toM_ev m0 m1 m2 frees hfl hsf
   have hl2 : (late.map conv).length ≤ 1048576 := by rw [List.length_map]; exact hs.2.1
   obtain ⟨rn, hrn⟩ := rnOf_ex (rnB_ex pages (late.map conv) hs.1.1 hs.1.2 (fun s hx => by
    obtain ⟨y, hy, rfl⟩ := List.mem_map.1 hx
    exact hs.2.2 y hy) hl2)
   have hb := rnOf_some hrn
   obtain ⟨pr, hpr⟩ : ∃ z, pgOf (tof rn m1) = z := ⟨_, rfl⟩
   have hlen : pr.1.length ≤ 100000 := by
    have : (tof rn m1).pg.length ≤ 87381 := by
     unfold tof
     split
     ·simp [st0]
     ·have := (dn_len hb.1.len 9 st0 m1 1).1
      rw [show st0.pg.length + nf 9 = 87381 from rfl] at this
      omega
    rw [← hpr]
    unfold pgOf
    split
    ·simp
    ·rw [srt_len]; omega
   have hi : impl_PagesOf.f pages (late.map conv) m1 = some pr := by unfold impl_PagesOf.f; rw [hrn, ← hpr]; rfl
   have hsp : spec_PagesOf.f pages (late.map conv) m1 = some pr := by unfold spec_PagesOf.f; rw [hrn, ← hpr, pages_same (rnB_good hb)]; rfl
   obtain ⟨ps, ok⟩ := pr
   obtain ⟨K3, hed⟩ := eqD_ev pages (late.map conv) hs.1.1 hl2
   obtain ⟨K4, hem⟩ := eqM_ev m0 m1 m2 (frees.map convF) (by rw [List.length_map]; exact hfl) (fun s h => by
    obtain ⟨y, hy, rfl⟩ := List.mem_map.1 h
    exact hsf y hy)
   obtain ⟨k, k0, k1, k2, k3, k4, k7⟩ : ∃ k, K0 ≤ k ∧ K1 ≤ k ∧ K2 ≤ k ∧ K3 ≤ k ∧ K4 ≤ k ∧ K7 ≤ k := ⟨K0 + K1 + K2 + K3 + K4 + K7, by omega, by omega, by omega, by omega, by omega, by omega⟩
   exact FnExactPagesRight_walk k A0 c0 pages A1 c1 late m0 m1 m2 A2 c2 frees (late.map conv) (frees.map convF) r r2 ps ok w hp hc0 hl hc1 hf hc2 (er k k0) hr (er2 k k7) hr2 (hto k k1) (htm k k2) hsp hi ⟨hlen, by rw [flatF_conv]; omega, by rw [List.length_map]; exact hfl⟩ (hed k k3) (hem k k4)
end Go.Proofs.Ytapholbdjccapaa.PFnExactTreeOk
namespace Go.Proofs.Ytapholbdjccapaa.Head
set_option maxRecDepth 100000
def w1 : List Char := [104, 97, 114, 110, 101, 115, 115].map Char.ofNat
def w2 : List Char := [97, 53, 100, 48, 51, 50, 48, 56, 102, 98, 52, 49, 98, 49, 48, 54, 97, 56, 100, 52, 97, 49, 101, 100, 97, 54, 57, 56, 56, 52, 99, 52, 54, 102, 102, 97, 102, 101, 56, 102, 102, 98, 53, 57, 98, 55, 101, 57, 50, 50, 99, 56, 57, 54, 52, 97, 53, 53, 53, 100, 55, 99, 49, 101].map Char.ofNat
def w3 : List Char := [99, 117, 116].map Char.ofNat
def w4 : List Char := [97, 116, 32, 108, 111, 111, 112, 46, 101, 120, 97, 109, 112, 108, 101, 47, 103, 48, 48, 50, 52, 48, 47, 108, 97, 119, 115, 46, 70, 110, 69, 120, 97, 99, 116, 79, 108, 100, 101, 115, 116, 79, 102, 32, 108, 111, 111, 112, 46, 101, 120, 97, 109, 112, 108, 101, 47, 103, 48, 48, 50, 52, 48, 47, 108, 97, 119, 115, 46, 70, 110, 77, 101, 116, 97, 115, 32, 108, 111, 111, 112, 46, 101, 120, 97, 109, 112, 108, 101, 47, 103, 48, 48, 50, 52, 48, 47, 108, 97, 119, 115, 46, 70, 110, 78, 111, 100, 101, 115, 32, 108, 111, 111, 112, 46, 101, 120, 97, 109, 112, 108, 101, 47, 103, 48, 48, 50, 52, 48, 47, 108, 97, 119, 115, 46, 70, 110, 69, 120, 97, 99, 116, 84, 114, 101, 101, 79, 107, 32, 108, 111, 111, 112, 46, 101, 120, 97, 109, 112, 108, 101, 47, 103, 48, 48, 50, 52, 48, 47, 108, 97, 119, 115, 46, 70, 110, 69, 120, 97, 99, 116, 65, 108, 108, 80, 97, 105, 114, 115, 32, 108, 111, 111, 112, 46, 101, 120, 97, 109, 112, 108, 101, 47, 103, 48, 48, 50, 52, 48, 47, 108, 97, 119, 115, 46, 70, 110, 69, 120, 97, 99, 116, 80, 97, 105, 114, 115, 70, 114, 111, 109, 32, 108, 111, 111, 112, 46, 101, 120, 97, 109, 112, 108, 101, 47, 103, 48, 48, 50, 52, 48, 47, 108, 97, 119, 115, 46, 70, 110, 69, 120, 97, 99, 116, 80, 97, 103, 101, 115, 79, 102, 32, 108, 111, 111, 112, 46, 101, 120, 97, 109, 112, 108, 101, 47, 103, 48, 48, 50, 52, 48, 47, 108, 97, 119, 115, 46, 70, 110, 69, 120, 97, 99, 116, 80, 97, 103, 101, 115, 82, 105, 103, 104, 116].map Char.ofNat
def blank : Char := Char.ofNat 32
theorem cut_at (a r : List Char) (h : a.all (· != blank) = true) : wordsSigns (a ++ blank :: r) = a :: wordsSigns r := by
 induction a with
 | nil => rfl
 | cons c a ih =>
  simp only [List.all_cons, Bool.and_eq_true, bne_iff_ne] at h
  have e := ih h.2
  have hc : ∀ s, wordsSigns (c :: s) = match wordsSigns s with | w :: ws => (c :: w) :: ws | [] => [[c]] := by
   intro s
   conv => lhs; unfold wordsSigns
   split
   ·rename_i h0; cases h0
   ·rename_i h0
    injection h0 with h1 h2
    exact absurd h1 h.1
   ·rename_i h0 _ h1
    injection h1 with h2 h3
    subst h2
    subst h3
    rfl
  show wordsSigns (c :: (a ++ blank :: r)) = _
  rw [hc, e]
theorem io : Try.prog.initOrder = String.ofList (w1 ++ blank :: (w2 ++ blank :: (w3 ++ blank :: w4))) := by kernel_rfl
theorem words : wordsSigns Try.prog.initOrder.toList = w1 :: w2 :: w3 :: wordsSigns w4 := by
 rw [io, String.toList_ofList, cut_at _ _ (by kernel_rfl), cut_at _ _ (by kernel_rfl), cut_at _ _ (by kernel_rfl)]
theorem m0 : ((w1 == "harness".toList || w1 == "ownmain".toList) && isSumSigns w2) = true := by kernel_rfl
theorem m1 : (w3 == "gc".toList) = false := by kernel_rfl
theorem m2 : (w3 == "spec".toList) = false := by kernel_rfl
theorem m3 : (w3 == "cut".toList) = true := by kernel_rfl
theorem m4 : (w3 == "carried".toList) = false := by kernel_rfl
theorem m5 (R : List (List Char)) : ((w3 :: R).head? == some "cut".toList) = true := by kernel_rfl
theorem m5c (R : List (List Char)) : ((w3 :: R).head? == some "carried".toList) = false := by kernel_rfl
theorem m6 (R : List (List Char)) : stripLifts liftWords (w3 :: R) = ([], w3 :: R) := by kernel_rfl
theorem m7 : Try.prog.laysLater = false := by kernel_rfl
theorem m8 : Try.prog.bearsReflect = false := by kernel_rfl
theorem m9 : Try.prog.doorFits [] = true := by kernel_rfl
theorem behind (R : List (List Char)) : behindMainWord (w1 :: w2 :: R) = R := by
 show (if ((w1 == "harness".toList || w1 == "ownmain".toList) && isSumSigns w2) = true then R else w1 :: w2 :: R) = R
 rw [if_pos m0]
theorem beh : ∃ R, behindMainWord (wordsSigns Try.prog.initOrder.toList) = w3 :: R := ⟨wordsSigns w4, by rw [words, behind]⟩
theorem lifts_of (P : Program) (R : List (List Char)) (h : behindMainWord (wordsSigns P.initOrder.toList) = w3 :: R) : (false == P.liftsFinal) = true := by
 unfold Program.liftsFinal Program.headLifts
 rw [h]
 simp only [m5, m5c, m6]
 rfl
theorem may_of (P : Program) (R : List (List Char)) (h : behindMainWord (wordsSigns P.initOrder.toList) = w3 :: R) (h7 : P.laysLater = false) (h8 : P.bearsReflect = false) (h9 : P.doorFits [] = true) : P.mayEnter = true := by
 unfold Program.mayEnter
 rw [h]
 simp only [m1, m2, m4, m5, m6, h7, h8, h9]
 rfl
theorem made_of (P : Program) (R : List (List Char)) (h : behindMainWord (wordsSigns P.initOrder.toList) = w3 :: R) : (P.make == some Make.cut) = true := by
 unfold Program.make Program.headLifts
 rw [h]
 simp only [m1, m2, m3]
 rfl
theorem lifts : (false == Try.prog.liftsFinal) = true := by
 obtain ⟨R, h⟩ := beh
 exact lifts_of _ R h
theorem may : Try.prog.mayEnter = true := by
 obtain ⟨R, h⟩ := beh
 exact may_of _ R h m7 m8 m9
theorem made : (Try.prog.make == some Make.cut) = true := by
 obtain ⟨R, h⟩ := beh
 exact made_of _ R h
theorem laid : laidOutB Try.prog = true := by kernel_rfl
theorem maps : mapsRowed Try.prog = true := by kernel_rfl
theorem heard : Try.prog.stopsHeard = true := by kernel_rfl
theorem plain : (true == Try.prog.plainKeys) = true := by kernel_rfl
end Go.Proofs.Ytapholbdjccapaa.Head
namespace Go.Proofs.Ytapholbdjccapaa.Opened
open Go.RowKit Go.Deep Go.WideShapes Go.Proofs.YtapholbdjccapaaW.PrintWords
def Opens {α : Type} (P : Program) (t : TypeId) (d : Kd α) (ok : α → Prop) : Prop :=
 ∀ (H : Type) (enc : TypeId × Value → H) (w : World) (base : Nat) (spare : Nat → Bool) (held : Bool) (fuel : Nat) (cs : List Value) (x : DataW H × List MemPlace),
  DataW.trod enc P w base spare held fuel t cs = some x → ∃ y : α, d.K w y cs ∧ ok y
variable {P : Program}
theorem opens_int {t : TypeId} {k : IntKind} (hu : P.underlying t = some (.int k)) : Opens P t (Kd.int k) (fun _ => True) := by
 intro H enc w base spare held fuel cs x h
 obtain ⟨n, rfl, _, _⟩ := DataW.trod_int hu h
 exact ⟨n, rfl, trivial⟩
theorem opens_string {t : TypeId} (hu : P.underlying t = some .string) : Opens P t Kd.string (fun s => s.size ≤ 9223372036854775807) := by
 intro H enc w base spare held fuel cs x h
 obtain ⟨n, rfl, _, hs⟩ := DataW.trod_string hu h
 exact ⟨n, rfl, by unfold maxLen at hs; omega⟩
theorem list_of {α : Type} (n : Nat) (Q : Nat → α → Prop) (h : ∀ i, i < n → ∃ y, Q i y) : ∃ ys : List α, ys.length = n ∧ ∀ j p, ys[j]? = some p → Q j p := by
 induction n with
 | zero => exact ⟨[], rfl, fun j p h => by simp at h⟩
 | succ n ih =>
  obtain ⟨ys, hl, hy⟩ := ih (fun i hi => h i (by omega))
  obtain ⟨y, hq⟩ := h n (by omega)
  refine ⟨ys ++ [y], by simp [hl], fun j p hj => ?_⟩
  rcases Nat.lt_or_ge j n with hlt | hge
  ·rw [List.getElem?_append_left (by omega)] at hj
   exact hy j p hj
  ·have hj' : j = n := by
    have := (List.getElem?_eq_some_iff.1 hj).1
    rw [List.length_append, List.length_singleton] at this
    omega
   subst hj'
   have : y = p := by rw [List.getElem?_append_right (by omega), hl, Nat.sub_self] at hj; simpa using hj
   subst this
   exact hq
theorem opens_slice {t e : TypeId} {α : Type} {d : Kd α} {ok : α → Prop} (hu : P.underlying t = some (.slice e)) (he : Opens P e d ok) (hc : P.cellsOf e = d.sz) (n : Nat) : Opens P t (Kd.slice n d) (fun ys => ∀ y ∈ ys, ok y) := by
 intro H enc w base spare held fuel cs x h
 rcases open_slice hu h with ⟨rfl, _⟩ | ⟨a, len, cap, m, n', D, Pl, rfl, _, hl, hm, hmm, _, hel⟩
 ·exact ⟨[], ⟨none, 0, rfl, Nat.le_refl _, rfl, by simp, fun h => by simp at h⟩, fun y hy => by cases hy⟩
 ·have hlm : len ≤ m := by
   rw [hmm]
   split <;> omega
  obtain ⟨ys, hy, hq⟩ := list_of len (fun i y => ok y ∧ ∃ cs', w.cells? base (a.add (i * P.cellsOf e)) (P.cellsOf e) = some cs' ∧ d.K w y cs') (fun i hi => by
   obtain ⟨cs', h1, h2⟩ := hel i (by omega)
   obtain ⟨y, hy, hok⟩ := he _ enc w base spare held n' cs' _ h2
   exact ⟨y, hok, cs', h1, hy⟩)
  subst hy
  refine ⟨ys, ⟨some a, cap, rfl, hl, rfl, by unfold maxLen at hm; omega, fun _ => ⟨a, rfl, fun j p hj => ?_⟩⟩, fun y hy => ?_⟩
  ·obtain ⟨_, cs', h1, h2⟩ := hq j p hj
   obtain ⟨_, h3, h4⟩ := World.cells?_some h1
   refine ⟨cs', h3.trans hc, h2, fun i u hi => ?_⟩
   have hi' : i < P.cellsOf e := by
    have := (List.getElem?_eq_some_iff.1 hi).1
    omega
   have := h4 i hi'
   rw [Addr.add_add, hc] at this
   rw [this]
   exact hi
  ·obtain ⟨j, hj, rfl⟩ := List.getElem_of_mem hy
   exact (hq j _ (List.getElem?_eq_getElem hj)).1
def Parts {α : Type} (P : Program) (fs : List Field) (o : Nat) (d : Kd α) (ok : α → Prop) : Prop :=
 ∀ (H : Type) (enc : TypeId × Value → H) (w : World) (base : Nat) (spare : Nat → Bool) (held : Bool) (fuel : Nat) (cs : List Value), cs.length = o + d.sz →
  (∀ f ∈ fs, ∃ x : DataW H × List MemPlace, DataW.trod enc P w base spare held fuel f.type ((cs.drop f.offset).take (P.cellsOf f.type)) = some x) → ∃ y : α, d.K w y (cs.drop o) ∧ ok y
theorem parts_last {α : Type} {d : Kd α} {ok : α → Prop} {f : Field} {o : Nat} (hf : Opens P f.type d ok) (ho : f.offset = o) (hc : P.cellsOf f.type = d.sz) : Parts P [f] o d ok := by
 intro H enc w base spare held fuel cs hl h
 obtain ⟨x, hx⟩ := h f (by simp)
 rw [ho, hc, List.take_of_length_le (by rw [List.length_drop]; omega)] at hx
 exact hf _ enc w base spare held fuel _ x hx
theorem parts_cons {α β : Type} {d : Kd α} {ds : Kd β} {ok : α → Prop} {oks : β → Prop} {f : Field} {fs : List Field} {o o' : Nat} (hf : Opens P f.type d ok) (ho : f.offset = o) (hc : P.cellsOf f.type = d.sz) (hs : Parts P fs o' ds oks) (ho' : o' = o + d.sz) : Parts P (f :: fs) o (Kd.pair d ds) (fun p => ok p.1 ∧ oks p.2) := by
 intro H enc w base spare held fuel cs hl h
 subst ho'
 have hl' : cs.length = o + (d.sz + ds.sz) := hl
 obtain ⟨x, hx⟩ := h f (by simp)
 rw [ho, hc] at hx
 obtain ⟨y, hy, oy⟩ := hf _ enc w base spare held fuel _ x hx
 obtain ⟨z, hz, oz⟩ := hs _ enc w base spare held fuel cs (by omega) (fun g hg => h g (by simp [hg]))
 refine ⟨(y, z), ⟨(cs.drop o).take d.sz, cs.drop (o + d.sz), ?_, hy, hz⟩, oy, oz⟩
 rw [← List.drop_drop]
 exact (List.take_append_drop _ _).symm
theorem opens_struct {t : TypeId} {fs : Array Field} {α β : Type} {d : Kd α} {ok : α → Prop} (hu : P.underlying t = some (.struct fs)) (hp : Parts P fs.toList 0 d ok) (hc : P.cellsOf t = d.sz) (f : β → α) (g : α → β) (hg : ∀ y, f (g y) = y) : Opens P t (Kd.iso d f) (fun y => ok (f y)) := by
 intro H enc w base spare held fuel cs x h
 obtain ⟨xs, n, _, _, hl, hlen, hi⟩ := DataW.trod_struct hu h
 obtain ⟨y, hy, oy⟩ := hp _ enc w base spare held n cs (by omega) (fun fl hfl => by
  obtain ⟨i, hlt, he⟩ := List.getElem_of_mem hfl
  have hlt' : i < fs.size := by simpa using hlt
  have := hi i fl (by rw [Array.getElem?_eq_getElem hlt']; simpa using he)
  rw [List.getElem?_eq_getElem (by omega)] at this
  exact ⟨_, this⟩)
 refine ⟨g y, ?_, ?_⟩
 ·show d.K w (f (g y)) cs
  rw [hg]
  simpa using hy
 ·show ok (f (g y))
  rw [hg]
  exact oy
theorem arg_struct {t : TypeId} {fs : Array Field} {α : Type} {d : Kd α} {ok : α → Prop} (hu : P.underlying t = some (.struct fs)) (ho : Opens P t d ok) {H : Type} {enc : TypeId × Value → H} {w : World} {base b0 : Nat} {spare : Nat → Bool} {held : Bool} {r : Reach} {v : Value} {x : DataW H} {p : List MemPlace}
  (hv : Value.okWide P w r b0 t v) (h : DataW.Trod enc P w base spare held t v x p) : ∃ (y : α) (cs : List Value), v = .agg cs.toArray ∧ d.K w y cs ∧ ok y := by
 obtain ⟨cs, rfl, _⟩ := okWide_struct hu hv
 obtain ⟨fuel, hf⟩ := h
 obtain ⟨y, hy, oy⟩ := ho _ enc w base spare held fuel _ _ hf
 exact ⟨y, cs.toList, by simp, by simpa [Value.cells] using hy, oy⟩
end Go.Proofs.Ytapholbdjccapaa.Opened
