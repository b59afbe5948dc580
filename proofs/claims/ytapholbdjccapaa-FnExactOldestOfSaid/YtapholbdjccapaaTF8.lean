import Derived.Test.YtapholbdjccapaaTF7
import Derived.ProofKit
import Derived.OpenShut
import Derived.Deep.Slices
set_option maxHeartbeats 64000000
set_option maxRecDepth 100000
set_option linter.unusedVariables false
set_option linter.unusedSimpArgs false
namespace Go.Proofs.Ytapholbdjccapaa.PFnExactTreeOk
open Go.RowKit Go.Proofs.YtapholbdjccapaaW.PrintWords Go.Proofs.YtapholbdjccapaaW.PrintLast Go.Proofs.YtapholbdjccapaaW.PrintMore
attribute [local go_sem] max2_int min2_int max_two min_two max_three min_three max_four min_four
def OKm (l : List S198) : Prop := l.length ≤ 1048576 ∧ ∀ s ∈ l, s.f1.length ≤ 1048576
def INm (l : List S198) : Prop := (∀ s ∈ l, s.f1.length ≤ 9223372036854775807) ∧ l.length ≤ 9223372036854775807
def INd (pages : List ByteArray) (late : List S187) : Prop := (∀ s ∈ pages, s.size ≤ 9223372036854775807) ∧ pages.length ≤ 9223372036854775807 ∧ (∀ s ∈ late, s.f1.size ≤ 9223372036854775807) ∧ late.length ≤ 9223372036854775807
theorem szDx (pages : List ByteArray) (late : List S187) (h : INd pages late) (x : Int) (h0 : 0 ≤ x) (hx : x ≤ 1048576) : ∃ r, Ev (fun k => laws_szDisk.f k pages late x) r ∧ (r < 0 ∨ (0 ≤ r ∧ r ≤ x ∧ Small pages late)) := by
 obtain ⟨h1, h2, h3, h4⟩ := h
 obtain ⟨a, ea, ha⟩ := szS_ev pages h1 h2 x h0 hx
 rcases ha with ha | ⟨a0, a1, a2, a3⟩
 ·exact ⟨-1, Ev.bind ea (by simp only [if_pos ha]; exact Ev.now _), .inl (by omega)⟩
 ·obtain ⟨b, eb, hb⟩ := szP_ev late h3 h4 a a0 (by omega)
  rcases hb with hb | ⟨b0, b1, b2, b3⟩
  ·exact ⟨-1, Ev.bind ea (by simp only [if_neg (show ¬ a < 0 by omega)]; exact Ev.bind eb (by simp only [if_pos hb]; exact Ev.now _)), .inl (by omega)⟩
  ·exact ⟨b, Ev.bind ea (by simp only [if_neg (show ¬ a < 0 by omega)]; exact Ev.bind eb (by simp only [if_neg (show ¬ b < 0 by omega)]; exact Ev.now _)), .inr ⟨b0, by omega, ⟨by omega, fun s hs => by have := a3 s hs; omega⟩, ⟨by omega, fun s hs => by have := b3 s hs; omega⟩⟩⟩
theorem szIx (l : List Int) (hl : l.length ≤ 9223372036854775807) (x : Int) (h0 : 0 ≤ x) (hx : x ≤ 1048576) : ∃ r, Ev (fun _ => laws_szIntS.f l x) r ∧ (r < 0 ∨ (0 ≤ r ∧ r ≤ x ∧ l.length ≤ 1048576)) := by
 unfold laws_szIntS.f
 rw [wrap_in (by omega) (by omega)]
 by_cases h : x - (l.length : Int) < 0
 ·exact ⟨-1, by rw [if_pos h]; exact Ev.now _, .inl (by omega)⟩
 ·exact ⟨_, by rw [if_neg h]; exact Ev.now _, .inr ⟨by omega, by omega, by omega⟩⟩
theorem szMx (m0 m1 m2 : Int) (l : List S198) (h : INm l) (x : Int) (h0 : 0 ≤ x) (hx : x ≤ 1048576) : ∃ r, Ev (fun k => laws_szMeta.f k m0 m1 m2 l x) r ∧ (r < 0 ∨ (0 ≤ r ∧ r ≤ x ∧ OKm l)) := by
 obtain ⟨r, e, hr⟩ := szM_ev m0 m1 m2 l h.1 h.2 x h0 hx
 refine ⟨r, e, ?_⟩
 rcases hr with hr | ⟨a, b, c, d⟩
 ·exact .inl hr
 ·exact .inr ⟨by omega, b, c, fun s hs => Nat.le_trans (sumF_mem l s hs) d⟩
theorem rd_T162_nat (xs : List S162) (k : Nat) (hk : k < xs.length) : rd_T162 xs (k : Int) = xs[k] := by
 simp [rd_T162, List.getD_eq_getElem?_getD, List.getElem?_eq_getElem hk]
theorem rd_T99_nat (xs : List S99) (k : Nat) (hk : k < xs.length) : rd_T99 xs (k : Int) = xs[k] := by
 simp [rd_T99, List.getD_eq_getElem?_getD, List.getElem?_eq_getElem hk]
theorem szR_go (l : List S162) (hs : ∀ s ∈ l, INm s.f1.f3) (hl : l.length ≤ 9223372036854775807) : ∀ (n i : Nat) (x : Int), i + n = l.length → 0 ≤ x → x ≤ 1048576 → ∃ r, Ev (fun k => laws_szReaderS.l0 k l x (i : Int)) r ∧ (r < 0 ∨ (0 ≤ r ∧ r ≤ x ∧ ∀ j (hj : j < l.length), i ≤ j → OKm l[j].f1.f3)) := by
 intro n
 induction n with
 | zero =>
  intro i x hi h0 h1
  exact ⟨x, Ev.step (f := fun _ => some x) (fun k => by rw [laws_szReaderS.l0, if_neg (by omega)]) (Ev.now _), .inr ⟨h0, Int.le_refl _, fun j hj hij => by omega⟩⟩
 | succ n ih =>
  intro i x hi h0 h1
  have hlt : i < l.length := by omega
  obtain ⟨a, ea, ha⟩ := szMx l[i].f1.f0 l[i].f1.f1 l[i].f1.f2 l[i].f1.f3 (hs _ (List.getElem_mem hlt)) x h0 h1
  have hst : ∀ k, laws_szReaderS.l0 (k + 1) l x (i : Int) = ((laws_szMeta.f k l[i].f1.f0 l[i].f1.f1 l[i].f1.f2 l[i].f1.f3 x).bind fun t => if t < 0 then some (-1) else some t).bind fun t => if t < 0 then some (-1) else laws_szReaderS.l0 k l t ((i + 1 : Nat) : Int) := fun k => by
   rw [laws_szReaderS.l0, if_pos (by omega), if_pos (by omega), rd_T162_nat _ _ hlt, wrap_in (by omega) (by omega)]
   rfl
  rcases ha with ha | ⟨a0, a1, a2⟩
  ·exact ⟨-1, Ev.step hst (Ev.bind (a := -1) (Ev.bind ea (by simp only [if_pos ha]; exact Ev.now _)) (by simp only [if_pos (show (-1 : Int) < 0 by omega)]; exact Ev.now _)), .inl (by omega)⟩
  ·obtain ⟨r, er, hr⟩ := ih (i + 1) a (by omega) a0 (by omega)
   refine ⟨r, Ev.step hst (Ev.bind (a := a) (Ev.bind ea (by simp only [if_neg (show ¬ a < 0 by omega)]; exact Ev.now _)) (by simp only [if_neg (show ¬ a < 0 by omega)]; exact er)), ?_⟩
   rcases hr with hr | ⟨r0, r1, r2⟩
   ·exact .inl hr
   ·refine .inr ⟨r0, by omega, fun j hj hij => ?_⟩
    by_cases hji : j = i
    ·subst hji; exact a2
    ·exact r2 j hj (by omega)
theorem szRx (l : List S162) (hs : ∀ s ∈ l, INm s.f1.f3) (hl : l.length ≤ 9223372036854775807) (x : Int) (h0 : 0 ≤ x) (hx : x ≤ 1048576) : ∃ r, Ev (fun k => laws_szReaderS.f k l x) r ∧ (r < 0 ∨ (0 ≤ r ∧ r ≤ x ∧ l.length ≤ 1048576 ∧ ∀ s ∈ l, OKm s.f1.f3)) := by
 by_cases hneg : x - (l.length : Int) < 0
 ·exact ⟨-1, Ev.congr (f := fun _ => some (-1)) (fun k => by unfold laws_szReaderS.f; rw [wrap_in (by omega) (by omega), if_pos hneg]) (Ev.now _), .inl (by omega)⟩
 ·obtain ⟨r, er, hr⟩ := szR_go l hs hl l.length 0 (x - (l.length : Int)) (by omega) (by omega) (by omega)
  refine ⟨r, Ev.congr (fun k => by unfold laws_szReaderS.f; rw [wrap_in (by omega) (by omega), if_neg hneg]; rfl) er, ?_⟩
  rcases hr with hr | ⟨r0, r1, r2⟩
  ·exact .inl hr
  ·refine .inr ⟨r0, by omega, by omega, fun s hs => ?_⟩
   obtain ⟨j, hj, rfl⟩ := List.getElem_of_mem hs
   exact r2 j hj (Nat.zero_le _)
def convR (s : S162) : S99 := ⟨s.f0, ⟨s.f1.f0, s.f1.f1, s.f1.f2, s.f1.f3.map convF⟩⟩
theorem toR_go (l : List S162) (hl : l.length ≤ 1048576) (hs : ∀ s ∈ l, OKm s.f1.f3) : ∀ (n i : Nat), i + n = l.length → Ev (fun k => laws_toReaderS.l0 k l ((l.map convR).take i ++ List.replicate n z99) (i : Int)) (l.map convR) := by
 intro n
 induction n with
 | zero =>
  intro i hi
  refine Ev.step (f := fun _ => some (l.map convR)) (fun k => ?_) (Ev.now _)
  rw [laws_toReaderS.l0, if_neg (by omega), List.replicate_zero, List.append_nil, List.take_of_length_le (by rw [List.length_map]; omega)]
 | succ n ih =>
  intro i hi
  have hlt : i < l.length := by omega
  have hlt' : i < (l.map convR).length := by rw [List.length_map]; exact hlt
  have hti : ((l.map convR).take i).length = i := by rw [List.length_take, List.length_map]; omega
  have hm := hs _ (List.getElem_mem hlt)
  refine Ev.step (f := fun k => (laws_toMeta.f k l[i].f1.f0 l[i].f1.f1 l[i].f1.f2 l[i].f1.f3).bind fun t => laws_toReaderS.l0 k l (((l.map convR).take i ++ z99 :: List.replicate n z99).set i ⟨l[i].f0, ⟨t.1, t.2.1, t.2.2.1, t.2.2.2⟩⟩) ((i + 1 : Nat) : Int)) (fun k => ?_) (Ev.bind (toM_ev _ _ _ _ hm.1 hm.2) ?_)
  ·rw [laws_toReaderS.l0, if_pos (by omega), if_pos (by omega), rd_T162_nat _ _ hlt, laws_toReader.f, wrap_in (by omega) (by omega), Int.toNat_natCast, List.replicate_succ]
   cases laws_toMeta.f k l[i].f1.f0 l[i].f1.f1 l[i].f1.f2 l[i].f1.f3 with
   | none => rfl
   | some t =>
    simp only [Option.bind_some]
    rw [if_pos (by simp; omega)]
    rfl
  ·have := set_front ((l.map convR).take i) (List.replicate n z99) z99 (convR l[i])
   rw [hti] at this
   show Ev (fun k => laws_toReaderS.l0 k l (((l.map convR).take i ++ z99 :: List.replicate n z99).set i (convR l[i])) _) _
   rw [this, show convR l[i] = (l.map convR)[i] by rw [List.getElem_map], List.take_append_getElem hlt']
   exact ih (i + 1) (by omega)
theorem toR_ev (l : List S162) (hl : l.length ≤ 1048576) (hs : ∀ s ∈ l, OKm s.f1.f3) : Ev (fun k => laws_toReaderS.f k l) (l.map convR) := by
 refine Ev.congr (f := fun k => laws_toReaderS.l0 k l ((l.map convR).take 0 ++ List.replicate l.length z99) 0) (fun k => ?_) (toR_go l hl hs l.length 0 (by omega))
 unfold laws_toReaderS.f
 rw [if_pos (by omega), if_pos (by rw [Int.toNat_natCast]; omega), Int.toNat_natCast, List.take_zero, List.nil_append]
def OKn (l : List S109) : Prop := l.length ≤ 1048576 ∧ ∀ s ∈ l, s.f1.length ≤ 1048576
theorem OKn_conv {l : List S198} (h : OKm l) : OKn (l.map convF) := ⟨by rw [List.length_map]; exact h.1, fun s hs => by obtain ⟨y, hy, rfl⟩ := List.mem_map.1 hs; exact h.2 y hy⟩
theorem eqR_go (l : List S99) (hl : l.length ≤ 1048576) (hs : ∀ s ∈ l, OKn s.f1.f3) : ∀ (n i : Nat), i + n = l.length → Ev (fun k => laws_eqReaderS.l0 k l l (i : Int)) true := by
 intro n
 induction n with
 | zero =>
  intro i hi
  exact Ev.step (f := fun _ => some true) (fun k => by rw [laws_eqReaderS.l0, if_neg (by omega)]) (Ev.now _)
 | succ n ih =>
  intro i hi
  have hlt : i < l.length := by omega
  have hm := hs _ (List.getElem_mem hlt)
  refine Ev.step (f := fun k => (laws_eqMeta.f k l[i].f1.f0 l[i].f1.f1 l[i].f1.f2 l[i].f1.f3 l[i].f1.f0 l[i].f1.f1 l[i].f1.f2 l[i].f1.f3).bind fun t => if t = true then laws_eqReaderS.l0 k l l ((i + 1 : Nat) : Int) else none) (fun k => ?_) (Ev.bind (eqM_ev _ _ _ _ hm.1 hm.2) ?_)
  ·rw [laws_eqReaderS.l0, if_pos (by omega), if_pos (by omega), if_pos (by omega), rd_T99_nat _ _ hlt, laws_eqReader.f, if_pos rfl, wrap_in (by omega) (by omega)]
   cases laws_eqMeta.f k l[i].f1.f0 l[i].f1.f1 l[i].f1.f2 l[i].f1.f3 l[i].f1.f0 l[i].f1.f1 l[i].f1.f2 l[i].f1.f3 with
   | none => rfl
   | some t => cases t <;> rfl
  ·simp only [if_true]
   exact ih (i + 1) (by omega)
theorem eqR_ev (l : List S99) (hl : l.length ≤ 1048576) (hs : ∀ s ∈ l, OKn s.f1.f3) : Ev (fun k => laws_eqReaderS.f k l l) true :=
 Ev.congr (fun k => by unfold laws_eqReaderS.f; rw [if_pos rfl]; rfl) (eqR_go l hl hs l.length 0 (by omega))
theorem sz_step {A : Nat → Option Int} {F : Nat → Int → Option Int} {x : Int} {P Q : Prop} (hA : ∃ r, Ev A r ∧ (r < 0 ∨ (0 ≤ r ∧ r ≤ x ∧ P))) (hF : ∀ y, 0 ≤ y → y ≤ x → ∃ r, Ev (fun k => F k y) r ∧ (r < 0 ∨ (0 ≤ r ∧ r ≤ y ∧ Q))) : ∃ r, Ev (fun k => (A k).bind fun t => if t < 0 then some (-1) else F k t) r ∧ (r < 0 ∨ (0 ≤ r ∧ r ≤ x ∧ P ∧ Q)) := by
 obtain ⟨a, ea, ha⟩ := hA
 rcases ha with ha | ⟨a0, a1, a2⟩
 ·exact ⟨-1, Ev.bind ea (by simp only [if_pos ha]; exact Ev.now _), .inl (by omega)⟩
 ·obtain ⟨b, eb, hb⟩ := hF a a0 a1
  refine ⟨b, Ev.bind ea (by simp only [if_neg (show ¬ a < 0 by omega)]; exact eb), ?_⟩
  rcases hb with hb | ⟨b0, b1, b2⟩
  ·exact .inl hb
  ·exact .inr ⟨b0, by omega, a2, b2⟩
theorem sz_end {A : Nat → Option Int} {x : Int} {P : Prop} (hA : ∃ r, Ev A r ∧ (r < 0 ∨ (0 ≤ r ∧ r ≤ x ∧ P))) : ∃ r, Ev (fun k => (A k).bind fun t => if t < 0 then some (-1) else some t) r ∧ (r < 0 ∨ (0 ≤ r ∧ r ≤ x ∧ P)) := by
 obtain ⟨a, ea, ha⟩ := hA
 rcases ha with ha | ⟨a0, a1, a2⟩
 ·exact ⟨-1, Ev.bind ea (by simp only [if_pos ha]; exact Ev.now _), .inl (by omega)⟩
 ·exact ⟨a, Ev.bind ea (by simp only [if_neg (show ¬ a < 0 by omega)]; exact Ev.now _), .inr ⟨a0, a1, a2⟩⟩
def INi (l : List Int) : Prop := l.length ≤ 9223372036854775807
theorem szWx (pages : List ByteArray) (late : List S187) (n : Int) (u g f : List Int) (hd : INd pages late) (hu : INi u) (hg : INi g) (hf : INi f) (x : Int) (h0 : 0 ≤ x) (hx : x ≤ 1048576) : ∃ r, Ev (fun k => laws_szWork.f k pages late n u g f x) r ∧ (r < 0 ∨ (0 ≤ r ∧ r ≤ x ∧ Small pages late ∧ u.length ≤ 1048576 ∧ g.length ≤ 1048576 ∧ f.length ≤ 1048576)) := by
 unfold laws_szWork.f
 exact sz_step (szDx pages late hd x h0 hx) fun y y0 y1 => sz_step (szIx u hu y y0 (by omega)) fun z z0 z1 => sz_step (szIx g hg z z0 (by omega)) fun t t0 t1 => sz_end (szIx f hf t t0 (by omega))
theorem szTx (a b c : Int) (fr : List S198) (pages : List ByteArray) (late : List S187) (n : Int) (u g f : List Int) (q : Int) (hm : INm fr) (hd : INd pages late) (hu : INi u) (hg : INi g) (hf : INi f) (x : Int) (h0 : 0 ≤ x) (hx : x ≤ 1048576) : ∃ r, Ev (fun k => laws_szTxn.f k a b c fr pages late n u g f q x) r ∧ (r < 0 ∨ (0 ≤ r ∧ r ≤ x ∧ OKm fr ∧ Small pages late ∧ u.length ≤ 1048576 ∧ g.length ≤ 1048576 ∧ f.length ≤ 1048576)) := by
 unfold laws_szTxn.f
 exact sz_step (szMx a b c fr hm x h0 hx) fun y y0 y1 => sz_end (szWx pages late n u g f hd hu hg hf y y0 (by omega))
theorem toW_ev (pages : List ByteArray) (late : List S187) (n : Int) (u g f : List Int) (hd : Small pages late) (hu : u.length ≤ 1048576) (hg : g.length ≤ 1048576) (hf : f.length ≤ 1048576) : Ev (fun k => laws_toWork.f k pages late n u g f) (pages, late.map conv, n, u, g, f) := by
 unfold laws_toWork.f
 exact Ev.bind (toD_ev pages late hd) (Ev.bind (toI_ev u hu) (Ev.bind (toI_ev g hg) (Ev.bind (toI_ev f hf) (Ev.now _))))
theorem toT_ev (a b c : Int) (fr : List S198) (pages : List ByteArray) (late : List S187) (n : Int) (u g f : List Int) (q : Int) (hm : OKm fr) (hd : Small pages late) (hu : u.length ≤ 1048576) (hg : g.length ≤ 1048576) (hf : f.length ≤ 1048576) : Ev (fun k => laws_toTxn.f k a b c fr pages late n u g f q) (a, b, c, fr.map convF, pages, late.map conv, n, u, g, f, q) := by
 unfold laws_toTxn.f
 exact Ev.bind (toM_ev a b c fr hm.1 hm.2) (Ev.bind (toW_ev pages late n u g f hd hu hg hf) (Ev.now _))
theorem tru {F : Nat → Option Bool} {G : Nat → Option Bool} (h : Ev F true) (h2 : Ev G true) : Ev (fun k => (F k).bind fun t => if t = true then G k else none) true := Ev.bind h (by simp only [if_true]; exact h2)
theorem eqW_ev (pages : List ByteArray) (late : List S189) (n : Int) (u g f : List Int) (h1 : pages.length ≤ 1048576) (h2 : late.length ≤ 1048576) (hu : u.length ≤ 1048576) (hg : g.length ≤ 1048576) (hf : f.length ≤ 1048576) : Ev (fun k => laws_eqWork.f k pages late n u g f pages late n u g f) true := by
 unfold laws_eqWork.f
 refine tru (eqD_ev pages late h1 h2) ?_
 simp only [if_true]
 exact tru (eqI_ev u hu) (tru (eqI_ev g hg) (tru (eqI_ev f hf) (Ev.now _)))
theorem eqT_ev (a b c : Int) (fr : List S109) (pages : List ByteArray) (late : List S189) (n : Int) (u g f : List Int) (q : Int) (hm : OKn fr) (h1 : pages.length ≤ 1048576) (h2 : late.length ≤ 1048576) (hu : u.length ≤ 1048576) (hg : g.length ≤ 1048576) (hf : f.length ≤ 1048576) : Ev (fun k => laws_eqTxn.f k a b c fr pages late n u g f q a b c fr pages late n u g f q) true := by
 unfold laws_eqTxn.f
 refine tru (eqM_ev a b c fr hm.1 hm.2) (tru (eqW_ev pages late n u g f h1 h2 hu hg hf) ?_)
 simp only [if_true]
 exact Ev.now _
theorem old_go (l : List S99) (hl : l.length ≤ 1048576) (p0 : List ByteArray) (p1 : List S189) (a2 a3 a4 : Int) (p5 : List S109) (a7 a8 a9 : Int) (p10 : List S109) (p11 : List ByteArray) (p12 : List S189) (a13 : Int) (p14 p15 p16 : List Int) (a17 : Int) (a18 a19 : Bool) : ∀ (n i : Nat) (x : Int), i + n = l.length → ∃ r, Ev (fun k => spec_OldestOf.l0 k x (i : Int) p0 p1 a2 a3 a4 p5 l a7 a8 a9 p10 p11 p12 a13 p14 p15 p16 a17 a18 a19) r ∧ Ev (fun k => impl_OldestOf.l0 k x l (l.length : Int) (i : Int)) r := by
 intro n
 induction n with
 | zero =>
  intro i x hi
  exact ⟨x, Ev.step (f := fun _ => some x) (fun k => by rw [spec_OldestOf.l0, if_neg (by omega)]) (Ev.now _), Ev.step (f := fun _ => some x) (fun k => by rw [impl_OldestOf.l0, if_neg (by omega)]) (Ev.now _)⟩
 | succ n ih =>
  intro i x hi
  have hlt : i < l.length := by omega
  obtain ⟨r, e1, e2⟩ := ih (i + 1) (mn x l[i].f1.f0) (by omega)
  refine ⟨r, Ev.step (fun k => ?_) e1, Ev.step (fun k => ?_) e2⟩
  ·rw [spec_OldestOf.l0, if_pos (by omega), if_pos (by omega), rd_T99_nat _ _ hlt, wrap_in (by omega) (by omega)]
   unfold mn
   split <;> rfl
  ·rw [impl_OldestOf.l0, if_pos (by omega), if_pos (by omega), if_pos (by omega), rd_T99_nat _ _ hlt, wrap_in (by omega) (by omega)]
   rfl
theorem oldest_law (A0 : Option Addr) (c0 : Nat) (l0 : List ByteArray) (A1 : Option Addr) (c1 : Nat) (l1 : List (S187)) (a2 : Int) (a3 : Int) (a4 : Int) (A5 : Option Addr) (c5 : Nat) (l5 : List (S198)) (A6 : Option Addr) (c6 : Nat) (l6 : List (S162)) (a7 : Int) (a8 : Int) (a9 : Int) (A10 : Option Addr) (c10 : Nat) (l10 : List (S198)) (A11 : Option Addr) (c11 : Nat) (l11 : List ByteArray) (A12 : Option Addr) (c12 : Nat) (l12 : List (S187)) (a13 : Int) (A14 : Option Addr) (c14 : Nat) (l14 : List Int) (A15 : Option Addr) (c15 : Nat) (l15 : List Int) (A16 : Option Addr) (c16 : Nat) (l16 : List Int) (a17 : Int) (a18 : Bool) (a19 : Bool) (w : World) (hr0 : Kd.C Kd.string w A0 l0.length l0) (hc0 : l0.length ≤ c0) (hr1 : Kd.C k187 w A1 l1.length l1) (hc1 : l1.length ≤ c1) (hr5 : Kd.C k198 w A5 l5.length l5) (hc5 : l5.length ≤ c5) (hr6 : Kd.C k162 w A6 l6.length l6) (hc6 : l6.length ≤ c6) (hr10 : Kd.C k198 w A10 l10.length l10) (hc10 : l10.length ≤ c10) (hr11 : Kd.C Kd.string w A11 l11.length l11) (hc11 : l11.length ≤ c11) (hr12 : Kd.C k187 w A12 l12.length l12) (hc12 : l12.length ≤ c12) (hr14 : Kd.C (Kd.int .i64) w A14 l14.length l14) (hc14 : l14.length ≤ c14) (hr15 : Kd.C (Kd.int .i64) w A15 l15.length l15) (hc15 : l15.length ≤ c15) (hr16 : Kd.C (Kd.int .i64) w A16 l16.length l16) (hc16 : l16.length ≤ c16)
  (id0 : INd l0 l1) (im5 : INm l5) (ir6 : ∀ s ∈ l6, INm s.f1.f3) (il6 : l6.length ≤ 9223372036854775807) (im10 : INm l10) (id11 : INd l11 l12) (ii14 : INi l14) (ii15 : INi l15) (ii16 : INi l16) :
  Calls Try.prog 3 #[.agg #[.slice A0 l0.length c0, .slice A1 l1.length c1, .int .i64 a2, .int .i64 a3, .int .i64 a4, .slice A5 l5.length c5, .slice A6 l6.length c6, .int .i64 a7, .int .i64 a8, .int .i64 a9, .slice A10 l10.length c10, .slice A11 l11.length c11, .slice A12 l12.length c12, .int .i64 a13, .slice A14 l14.length c14, .slice A15 l15.length c15, .slice A16 l16.length c16, .int .i64 a17, .bool a18, .bool a19]] w fun e w' => e = .returned (.bool true) ∧ Below w.heap.size w w' := by
 obtain ⟨t, ⟨K0, e0⟩, ht⟩ : ∃ r, Ev (fun k => laws_szStore.f k l0 l1 a2 a3 a4 l5 l6 a7 a8 a9 l10 l11 l12 a13 l14 l15 l16 a17 a18 a19 1048576) r ∧ (r < 0 ∨ (0 ≤ r ∧ r ≤ 1048576 ∧ Small l0 l1 ∧ OKm l5 ∧ (l6.length ≤ 1048576 ∧ ∀ s ∈ l6, OKm s.f1.f3) ∧ OKm l10 ∧ Small l11 l12 ∧ l14.length ≤ 1048576 ∧ l15.length ≤ 1048576 ∧ l16.length ≤ 1048576)) := by
  unfold laws_szStore.f
  exact sz_step (szDx l0 l1 id0 1048576 (by omega) (by omega)) fun y y0 y1 => sz_step (szMx a2 a3 a4 l5 im5 y y0 (by omega)) fun z z0 z1 => sz_step (szRx l6 ir6 il6 z z0 (by omega)) fun t t0 t1 => sz_end (szTx a7 a8 a9 l10 l11 l12 a13 l14 l15 l16 a17 im10 id11 ii14 ii15 ii16 t t0 (by omega))
 rcases ht with ht | ⟨t0, t1, hs1, hs5, ⟨hs6, hs6m⟩, hs10, hs12, hs14, hs15, hs16⟩
 ·exact oldest_small K0 A0 c0 l0 A1 c1 l1 a2 a3 a4 A5 c5 l5 A6 c6 l6 a7 a8 a9 A10 c10 l10 A11 c11 l11 A12 c12 l12 a13 A14 c14 l14 A15 c15 l15 A16 c16 l16 a17 a18 a19 t w hr0 hc0 hr1 hc1 hr5 hc5 hr6 hc6 hr10 hc10 hr11 hc11 hr12 hc12 hr14 hc14 hr15 hc15 hr16 hc16 (e0 K0 (Nat.le_refl _)) ht
 ·obtain ⟨K1, e1⟩ := toD_ev l0 l1 hs1
  obtain ⟨K2, e2⟩ := toM_ev a2 a3 a4 l5 hs5.1 hs5.2
  obtain ⟨K3, e3⟩ := toR_ev l6 hs6 hs6m
  obtain ⟨K4, e4⟩ := toT_ev a7 a8 a9 l10 l11 l12 a13 l14 l15 l16 a17 hs10 hs12 hs14 hs15 hs16
  have h6 : (l6.map convR).length ≤ 1048576 := by rw [List.length_map]; exact hs6
  have h6m : ∀ s ∈ l6.map convR, OKn s.f1.f3 := fun s hs => by obtain ⟨y, hy, rfl⟩ := List.mem_map.1 hs; exact OKn_conv (hs6m y hy)
  obtain ⟨r, ⟨K5, e5⟩, ⟨K6, e6⟩⟩ := old_go (l6.map convR) h6 l0 (l1.map conv) a2 a3 a4 (l5.map convF) a7 a8 a9 (l10.map convF) l11 (l12.map conv) a13 l14 l15 l16 a17 a18 a19 (l6.map convR).length 0 a2 (by omega)
  have hlm : ∀ x : List S187, x.length ≤ 1048576 → (x.map conv).length ≤ 1048576 := fun x h => by rw [List.length_map]; exact h
  obtain ⟨K7, e7⟩ : Ev (fun k => laws_eqStore.f k l0 (l1.map conv) a2 a3 a4 (l5.map convF) (l6.map convR) a7 a8 a9 (l10.map convF) l11 (l12.map conv) a13 l14 l15 l16 a17 a18 a19 l0 (l1.map conv) a2 a3 a4 (l5.map convF) (l6.map convR) a7 a8 a9 (l10.map convF) l11 (l12.map conv) a13 l14 l15 l16 a17 a18 a19) true := by
   unfold laws_eqStore.f
   refine tru (eqD_ev l0 (l1.map conv) hs1.1.1 (hlm _ hs1.2.1)) (tru (eqM_ev a2 a3 a4 _ (OKn_conv hs5).1 (OKn_conv hs5).2) (tru (eqR_ev _ h6 h6m) (tru (eqT_ev a7 a8 a9 _ l11 _ a13 l14 l15 l16 a17 (OKn_conv hs10) hs12.1.1 (hlm _ hs12.2.1) hs14 hs15 hs16) ?_)))
   rw [if_neg (by simp), if_neg (by simp)]
   exact Ev.now _
  obtain ⟨k, k0, k1, k2, k3, k4, k5, k6, k7⟩ : ∃ k, K0 ≤ k ∧ K1 ≤ k ∧ K2 ≤ k ∧ K3 ≤ k ∧ K4 ≤ k ∧ K5 ≤ k ∧ K6 ≤ k ∧ K7 ≤ k := ⟨K0 + K1 + K2 + K3 + K4 + K5 + K6 + K7, by omega, by omega, by omega, by omega, by omega, by omega, by omega, by omega⟩
  exact oldest_great k A0 c0 l0 A1 c1 l1 a2 a3 a4 A5 c5 l5 A6 c6 l6 a7 a8 a9 A10 c10 l10 A11 c11 l11 A12 c12 l12 a13 A14 c14 l14 A15 c15 l15 A16 c16 l16 a17 a18 a19 l0 (l1.map conv) (l5.map convF) (l6.map convR) (l10.map convF) l11 (l12.map conv) l14 l15 l16 t r w hr0 hc0 hr1 hc1 hr5 hc5 hr6 hc6 hr10 hc10 hr11 hc11 hr12 hc12 hr14 hc14 hr15 hc15 hr16 hc16 (e0 k k0) (by omega) (e1 k k1) (e2 k k2) (e3 k k3) (e4 k k4) (e5 k k5) (e6 k k6) (e7 k k7)
end Go.Proofs.Ytapholbdjccapaa.PFnExactTreeOk
namespace Go.Proofs.Ytapholbdjccapaa.Head
set_option maxRecDepth 100000
def w1 : List Char := [104, 97, 114, 110, 101, 115, 115].map Char.ofNat
def w2 : List Char := [97, 53, 100, 48, 51, 50, 48, 56, 102, 98, 52, 49, 98, 49, 48, 54, 97, 56, 100, 52, 97, 49, 101, 100, 97, 54, 57, 56, 56, 52, 99, 52, 54, 102, 102, 97, 102, 101, 56, 102, 102, 98, 53, 57, 98, 55, 101, 57, 50, 50, 99, 56, 57, 54, 52, 97, 53, 53, 53, 100, 55, 99, 49, 101].map Char.ofNat
def w3 : List Char := [99, 117, 116].map Char.ofNat
def w4 : List Char := [97, 116, 32, 108, 111, 111, 112, 46, 101, 120, 97, 109, 112, 108, 101, 47, 103, 48, 48, 50, 52, 48, 47, 108, 97, 119, 115, 46, 70, 110, 69, 120, 97, 99, 116, 79, 108, 100, 101, 115, 116, 79, 102, 32, 108, 111, 111, 112, 46, 101, 120, 97, 109, 112, 108, 101, 47, 103, 48, 48, 50, 52, 48, 47, 108, 97, 119, 115, 46, 70, 110, 77, 101, 116, 97, 115, 32, 108, 111, 111, 112, 46, 101, 120, 97, 109, 112, 108, 101, 47, 103, 48, 48, 50, 52, 48, 47, 108, 97, 119, 115, 46, 70, 110, 78, 111, 100, 101, 115, 32, 108, 111, 111, 112, 46, 101, 120, 97, 109, 112, 108, 101, 47, 103, 48, 48, 50, 52, 48, 47, 108, 97, 119, 115, 46, 70, 110, 69, 120, 97, 99, 116, 84, 114, 101, 101, 79, 107, 32, 108, 111, 111, 112, 46, 101, 120, 97, 109, 112, 108, 101, 47, 103, 48, 48, 50, 52, 48, 47, 108, 97, 119, 115, 46, 70, 110, 69, 120, 97, 99, 116, 65, 108, 108, 80, 97, 105, 114, 115, 32, 108, 111, 111, 112, 46, 101, 120, 97, 109, 112, 108, 101, 47, 103, 48, 48, 50, 52, 48, 47, 108, 97, 119, 115, 46, 70, 110, 69, 120, 97, 99, 116, 80, 97, 105, 114, 115, 70, 114, 111, 109, 32, 108, 111, 111, 112, 46, 101, 120, 97, 109, 112, 108, 101, 47, 103, 48, 48, 50, 52, 48, 47, 108, 97, 119, 115, 46, 70, 110, 69, 120, 97, 99, 116, 80, 97, 103, 101, 115, 79, 102, 32, 108, 111, 111, 112, 46, 101, 120, 97, 109, 112, 108, 101, 47, 103, 48, 48, 50, 52, 48, 47, 108, 97, 119, 115, 46, 70, 110, 69, 120, 97, 99, 116, 80, 97, 103, 101, 115, 82, 105, 103, 104, 116].map Char.ofNat
def blank : Char := Char.ofNat 32
theorem cut_at (a r : List Char) (h : a.all (· != blank) = true) : wordsSigns (a ++ blank :: r) = a :: wordsSigns r := by
 induction a with
 | nil => rfl
 | cons c a ih =>
  simp only [List.all_cons, Bool.and_eq_true, bne_iff_ne] at h
  have e := ih h.2
  have hc : ∀ s, wordsSigns (c :: s) = match wordsSigns s with | w :: ws => (c :: w) :: ws | [] => [[c]] := by
   intro s
   conv => lhs; unfold wordsSigns
   split
   ·rename_i h0; cases h0
   ·rename_i h0
    injection h0 with h1 h2
    exact absurd h1 h.1
   ·rename_i h0 _ h1
    injection h1 with h2 h3
    subst h2
    subst h3
    rfl
  show wordsSigns (c :: (a ++ blank :: r)) = _
  rw [hc, e]
theorem io : Try.prog.initOrder = String.ofList (w1 ++ blank :: (w2 ++ blank :: (w3 ++ blank :: w4))) := by kernel_rfl
theorem words : wordsSigns Try.prog.initOrder.toList = w1 :: w2 :: w3 :: wordsSigns w4 := by
 rw [io, String.toList_ofList, cut_at _ _ (by kernel_rfl), cut_at _ _ (by kernel_rfl), cut_at _ _ (by kernel_rfl)]
theorem m0 : ((w1 == "harness".toList || w1 == "ownmain".toList) && isSumSigns w2) = true := by kernel_rfl
theorem m1 : (w3 == "gc".toList) = false := by kernel_rfl
theorem m2 : (w3 == "spec".toList) = false := by kernel_rfl
theorem m3 : (w3 == "cut".toList) = true := by kernel_rfl
theorem m4 : (w3 == "carried".toList) = false := by kernel_rfl
theorem m5 (R : List (List Char)) : ((w3 :: R).head? == some "cut".toList) = true := by kernel_rfl
theorem m5c (R : List (List Char)) : ((w3 :: R).head? == some "carried".toList) = false := by kernel_rfl
theorem m6 (R : List (List Char)) : stripLifts liftWords (w3 :: R) = ([], w3 :: R) := by kernel_rfl
theorem m7 : Try.prog.laysLater = false := by kernel_rfl
theorem m8 : Try.prog.bearsReflect = false := by kernel_rfl
theorem m9 : Try.prog.doorFits [] = true := by kernel_rfl
theorem behind (R : List (List Char)) : behindMainWord (w1 :: w2 :: R) = R := by
 show (if ((w1 == "harness".toList || w1 == "ownmain".toList) && isSumSigns w2) = true then R else w1 :: w2 :: R) = R
 rw [if_pos m0]
theorem beh : ∃ R, behindMainWord (wordsSigns Try.prog.initOrder.toList) = w3 :: R := ⟨wordsSigns w4, by rw [words, behind]⟩
theorem lifts_of (P : Program) (R : List (List Char)) (h : behindMainWord (wordsSigns P.initOrder.toList) = w3 :: R) : (false == P.liftsFinal) = true := by
 unfold Program.liftsFinal Program.headLifts
 rw [h]
 simp only [m5, m5c, m6]
 rfl
theorem may_of (P : Program) (R : List (List Char)) (h : behindMainWord (wordsSigns P.initOrder.toList) = w3 :: R) (h7 : P.laysLater = false) (h8 : P.bearsReflect = false) (h9 : P.doorFits [] = true) : P.mayEnter = true := by
 unfold Program.mayEnter
 rw [h]
 simp only [m1, m2, m4, m5, m6, h7, h8, h9]
 rfl
theorem made_of (P : Program) (R : List (List Char)) (h : behindMainWord (wordsSigns P.initOrder.toList) = w3 :: R) : (P.make == some Make.cut) = true := by
 unfold Program.make Program.headLifts
 rw [h]
 simp only [m1, m2, m3]
 rfl
theorem lifts : (false == Try.prog.liftsFinal) = true := by
 obtain ⟨R, h⟩ := beh
 exact lifts_of _ R h
theorem may : Try.prog.mayEnter = true := by
 obtain ⟨R, h⟩ := beh
 exact may_of _ R h m7 m8 m9
theorem made : (Try.prog.make == some Make.cut) = true := by
 obtain ⟨R, h⟩ := beh
 exact made_of _ R h
theorem laid : laidOutB Try.prog = true := by kernel_rfl
theorem maps : mapsRowed Try.prog = true := by kernel_rfl
theorem heard : Try.prog.stopsHeard = true := by kernel_rfl
theorem plain : (true == Try.prog.plainKeys) = true := by kernel_rfl
end Go.Proofs.Ytapholbdjccapaa.Head
namespace Go.Proofs.Ytapholbdjccapaa.Opened
open Go.RowKit Go.Deep Go.WideShapes Go.Proofs.YtapholbdjccapaaW.PrintWords
def Opens {α : Type} (P : Program) (t : TypeId) (d : Kd α) (ok : α → Prop) : Prop :=
 ∀ (H : Type) (enc : TypeId × Value → H) (w : World) (base : Nat) (spare : Nat → Bool) (held : Bool) (fuel : Nat) (cs : List Value) (x : DataW H × List MemPlace),
  DataW.trod enc P w base spare held fuel t cs = some x → ∃ y : α, d.K w y cs ∧ ok y
variable {P : Program}
theorem opens_int {t : TypeId} {k : IntKind} (hu : P.underlying t = some (.int k)) : Opens P t (Kd.int k) (fun _ => True) := by
 intro H enc w base spare held fuel cs x h
 obtain ⟨n, rfl, _, _⟩ := DataW.trod_int hu h
 exact ⟨n, rfl, trivial⟩
theorem opens_string {t : TypeId} (hu : P.underlying t = some .string) : Opens P t Kd.string (fun s => s.size ≤ 9223372036854775807) := by
 intro H enc w base spare held fuel cs x h
 obtain ⟨n, rfl, _, hs⟩ := DataW.trod_string hu h
 exact ⟨n, rfl, by unfold maxLen at hs; omega⟩
theorem list_of {α : Type} (n : Nat) (Q : Nat → α → Prop) (h : ∀ i, i < n → ∃ y, Q i y) : ∃ ys : List α, ys.length = n ∧ ∀ j p, ys[j]? = some p → Q j p := by
 induction n with
 | zero => exact ⟨[], rfl, fun j p h => by simp at h⟩
 | succ n ih =>
  obtain ⟨ys, hl, hy⟩ := ih (fun i hi => h i (by omega))
  obtain ⟨y, hq⟩ := h n (by omega)
  refine ⟨ys ++ [y], by simp [hl], fun j p hj => ?_⟩
  rcases Nat.lt_or_ge j n with hlt | hge
  ·rw [List.getElem?_append_left (by omega)] at hj
   exact hy j p hj
  ·have hj' : j = n := by
    have := (List.getElem?_eq_some_iff.1 hj).1
    rw [List.length_append, List.length_singleton] at this
    omega
   subst hj'
   have : y = p := by rw [List.getElem?_append_right (by omega), hl, Nat.sub_self] at hj; simpa using hj
   subst this
   exact hq
theorem opens_slice {t e : TypeId} {α : Type} {d : Kd α} {ok : α → Prop} (hu : P.underlying t = some (.slice e)) (he : Opens P e d ok) (hc : P.cellsOf e = d.sz) (n : Nat) : Opens P t (Kd.slice n d) (fun ys => ∀ y ∈ ys, ok y) := by
 intro H enc w base spare held fuel cs x h
 rcases open_slice hu h with ⟨rfl, _⟩ | ⟨a, len, cap, m, n', D, Pl, rfl, _, hl, hm, hmm, _, hel⟩
 ·exact ⟨[], ⟨none, 0, rfl, Nat.le_refl _, rfl, by simp, fun h => by simp at h⟩, fun y hy => by cases hy⟩
 ·have hlm : len ≤ m := by
   rw [hmm]
   split <;> omega
  obtain ⟨ys, hy, hq⟩ := list_of len (fun i y => ok y ∧ ∃ cs', w.cells? base (a.add (i * P.cellsOf e)) (P.cellsOf e) = some cs' ∧ d.K w y cs') (fun i hi => by
   obtain ⟨cs', h1, h2⟩ := hel i (by omega)
   obtain ⟨y, hy, hok⟩ := he _ enc w base spare held n' cs' _ h2
   exact ⟨y, hok, cs', h1, hy⟩)
  subst hy
  refine ⟨ys, ⟨some a, cap, rfl, hl, rfl, by unfold maxLen at hm; omega, fun _ => ⟨a, rfl, fun j p hj => ?_⟩⟩, fun y hy => ?_⟩
  ·obtain ⟨_, cs', h1, h2⟩ := hq j p hj
   obtain ⟨_, h3, h4⟩ := World.cells?_some h1
   refine ⟨cs', h3.trans hc, h2, fun i u hi => ?_⟩
   have hi' : i < P.cellsOf e := by
    have := (List.getElem?_eq_some_iff.1 hi).1
    omega
   have := h4 i hi'
   rw [Addr.add_add, hc] at this
   rw [this]
   exact hi
  ·obtain ⟨j, hj, rfl⟩ := List.getElem_of_mem hy
   exact (hq j _ (List.getElem?_eq_getElem hj)).1
def Parts {α : Type} (P : Program) (fs : List Field) (o : Nat) (d : Kd α) (ok : α → Prop) : Prop :=
 ∀ (H : Type) (enc : TypeId × Value → H) (w : World) (base : Nat) (spare : Nat → Bool) (held : Bool) (fuel : Nat) (cs : List Value), cs.length = o + d.sz →
  (∀ f ∈ fs, ∃ x : DataW H × List MemPlace, DataW.trod enc P w base spare held fuel f.type ((cs.drop f.offset).take (P.cellsOf f.type)) = some x) → ∃ y : α, d.K w y (cs.drop o) ∧ ok y
theorem parts_last {α : Type} {d : Kd α} {ok : α → Prop} {f : Field} {o : Nat} (hf : Opens P f.type d ok) (ho : f.offset = o) (hc : P.cellsOf f.type = d.sz) : Parts P [f] o d ok := by
 intro H enc w base spare held fuel cs hl h
 obtain ⟨x, hx⟩ := h f (by simp)
 rw [ho, hc, List.take_of_length_le (by rw [List.length_drop]; omega)] at hx
 exact hf _ enc w base spare held fuel _ x hx
theorem parts_cons {α β : Type} {d : Kd α} {ds : Kd β} {ok : α → Prop} {oks : β → Prop} {f : Field} {fs : List Field} {o o' : Nat} (hf : Opens P f.type d ok) (ho : f.offset = o) (hc : P.cellsOf f.type = d.sz) (hs : Parts P fs o' ds oks) (ho' : o' = o + d.sz) : Parts P (f :: fs) o (Kd.pair d ds) (fun p => ok p.1 ∧ oks p.2) := by
 intro H enc w base spare held fuel cs hl h
 subst ho'
 have hl' : cs.length = o + (d.sz + ds.sz) := hl
 obtain ⟨x, hx⟩ := h f (by simp)
 rw [ho, hc] at hx
 obtain ⟨y, hy, oy⟩ := hf _ enc w base spare held fuel _ x hx
 obtain ⟨z, hz, oz⟩ := hs _ enc w base spare held fuel cs (by omega) (fun g hg => h g (by simp [hg]))
 refine ⟨(y, z), ⟨(cs.drop o).take d.sz, cs.drop (o + d.sz), ?_, hy, hz⟩, oy, oz⟩
 rw [← List.drop_drop]
 exact (List.take_append_drop _ _).symm
theorem opens_struct {t : TypeId} {fs : Array Field} {α β : Type} {d : Kd α} {ok : α → Prop} (hu : P.underlying t = some (.struct fs)) (hp : Parts P fs.toList 0 d ok) (hc : P.cellsOf t = d.sz) (f : β → α) (g : α → β) (hg : ∀ y, f (g y) = y) : Opens P t (Kd.iso d f) (fun y => ok (f y)) := by
 intro H enc w base spare held fuel cs x h
 obtain ⟨xs, n, _, _, hl, hlen, hi⟩ := DataW.trod_struct hu h
 obtain ⟨y, hy, oy⟩ := hp _ enc w base spare held n cs (by omega) (fun fl hfl => by
  obtain ⟨i, hlt, he⟩ := List.getElem_of_mem hfl
  have hlt' : i < fs.size := by simpa using hlt
  have := hi i fl (by rw [Array.getElem?_eq_getElem hlt']; simpa using he)
  rw [List.getElem?_eq_getElem (by omega)] at this
  exact ⟨_, this⟩)
 refine ⟨g y, ?_, ?_⟩
 ·show d.K w (f (g y)) cs
  rw [hg]
  simpa using hy
 ·show ok (f (g y))
  rw [hg]
  exact oy
theorem arg_struct {t : TypeId} {fs : Array Field} {α : Type} {d : Kd α} {ok : α → Prop} (hu : P.underlying t = some (.struct fs)) (ho : Opens P t d ok) {H : Type} {enc : TypeId × Value → H} {w : World} {base b0 : Nat} {spare : Nat → Bool} {held : Bool} {r : Reach} {v : Value} {x : DataW H} {p : List MemPlace}
  (hv : Value.okWide P w r b0 t v) (h : DataW.Trod enc P w base spare held t v x p) : ∃ (y : α) (cs : List Value), v = .agg cs.toArray ∧ d.K w y cs ∧ ok y := by
 obtain ⟨cs, rfl, _⟩ := okWide_struct hu hv
 obtain ⟨fuel, hf⟩ := h
 obtain ⟨y, hy, oy⟩ := ho _ enc w base spare held fuel _ _ hf
 exact ⟨y, cs.toList, by simp, by simpa [Value.cells] using hy, oy⟩
end Go.Proofs.Ytapholbdjccapaa.Opened
