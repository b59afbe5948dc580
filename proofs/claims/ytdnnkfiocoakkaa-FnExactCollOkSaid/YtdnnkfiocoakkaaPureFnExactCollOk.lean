/- The program's CollOk returns what the reference's returns, for all arguments (the law's own guards: a text of at most 1048576 bytes). -/
import Derived.Test.YtdnnkfiocoakkaaPFnExactCollOkx1
namespace Go.Proofs.Ytdnnkfiocoakkaa.Pure
open Go.RowKit Go.Proofs.Ytdnnkfiocoakkaa.PFnExactCollOk Go.Proofs.YtdnnkfiocoakkaaW.PrintWords Go.Proofs.YtdnnkfiocoakkaaW.PrintLast

theorem in_some (a b c : Int) : ∃ r, spec_l01In.f a b c = some r := by unfold spec_l01In.f; split <;> exact ⟨_, rfl⟩
theorem in_same (a b c : Int) : impl_in.f a b c = spec_l01In.f a b c := rfl
theorem loops (s : ByteArray) (m : Int) (hn : s.size ≤ 140737488351232) (d : Nat) : ∀ (k : Nat) (i : Int), 0 ≤ i → (s.size : Int) - i = d → d < k →
    ∃ r, spec_l04Word.l0 k s m i = some r ∧ impl_lettersOk.l0 k s m (s.size : Int) i = some r := by
  induction d with
  | zero =>
    intro k i h0 hd hk
    obtain ⟨k, rfl⟩ : ∃ m, k = m + 1 := ⟨k - 1, by omega⟩
    obtain ⟨r, hr⟩ := in_some (s.size : Int) 1 m
    refine ⟨r, ?_, ?_⟩
    · simp only [spec_l04Word.l0]; rw [if_neg (by omega), hr]; rfl
    · simp only [impl_lettersOk.l0]; rw [if_neg (by omega), in_same, hr]; rfl
  | succ d ih =>
    intro k i h0 hd hk
    obtain ⟨k, rfl⟩ : ∃ m, k = m + 1 := ⟨k - 1, by omega⟩
    obtain ⟨r, hr1, hr2⟩ := ih k (i + 1) (by omega) (by omega) (by omega)
    have hw : wrap64 (i + 1) = i + 1 := by unfold wrap64; omega
    simp only [spec_l04Word.l0, impl_lettersOk.l0]
    have hlt : i < (s.size : Int) := by omega
    simp only [if_pos hlt, if_pos h0, hw, hr1, hr2]
    by_cases h1 : bt s i < 97
    · exact ⟨false, by rw [if_pos h1], by rw [if_pos h1]⟩
    · by_cases h4 : bt s i > 122
      · exact ⟨false, by rw [if_neg h1, if_pos h4], by rw [if_neg h1, if_pos h4]⟩
      · exact ⟨r, by rw [if_neg h1, if_neg h4], by rw [if_neg h1, if_neg h4]⟩

theorem FnExactCollOk : laws_FnExactCollOk.Pure := by
  intro s hn
  obtain ⟨r, h1, h2⟩ := loops s 3 hn s.size (s.size + 1) 0 (by omega) (by omega) (by omega)
  refine ⟨s.size + 1, ?_⟩
  unfold laws_FnExactCollOk.f spec_CollOk.f impl_CollOk.f spec_l04Word.f impl_lettersOk.f
  rw [h1, h2]
  split
  · rfl
  · simp

end Go.Proofs.Ytdnnkfiocoakkaa.Pure
