import Derived.Test.YtdnnkfiocoakkaaPFnExactIndexKeyx0
namespace Go.Proofs.Ytdnnkfiocoakkaa.PFnExactIndexKey
open Go.RowKit Go.Proofs.YtdnnkfiocoakkaaW.PrintWords Go.Proofs.YtdnnkfiocoakkaaW.PrintLast Go.Proofs.YtdnnkfiocoakkaaW.PrintMore
def indexKey (a b c d : ByteArray) : ByteArray := ((((((⟨#[105]⟩ : ByteArray) ++ a) ++ (⟨#[0]⟩ : ByteArray)) ++ b) ++ (⟨#[0]⟩ : ByteArray)) ++ c) ++ d
set_option maxHeartbeats 800000 in
set_option maxRecDepth 100000 in
theorem spec_key (a0 a1 a2 a3 : ByteArray) (w : World) (h0 : a0.size ≤ 1048576) (h1 : a1.size ≤ 1048576) (h2 : a2.size ≤ 1048576) (h3 : a3.size ≤ 1048576) :
    Calls Try.prog 27 #[.string a0, .string a1, .string a2, .string a3] w fun e w' => e = .returned (.string (indexKey a0 a1 a2 a3)) ∧ w = w' := by
  go_enter Try.func27, Try.ntmps27
  go_wp2
  go_ret
  exact ⟨rfl, rfl⟩
set_option maxHeartbeats 800000 in
set_option maxRecDepth 100000 in
theorem impl_key (a0 a1 a2 a3 : ByteArray) (w : World) (h0 : a0.size ≤ 1048576) (h1 : a1.size ≤ 1048576) (h2 : a2.size ≤ 1048576) (h3 : a3.size ≤ 1048576) :
    Calls Try.prog 28 #[.string a0, .string a1, .string a2, .string a3] w fun e w' => e = .returned (.string (indexKey a0 a1 a2 a3)) ∧ w = w' := by
  go_enter Try.func28, Try.ntmps28
  go_wp2
  go_ret
  exact ⟨rfl, rfl⟩
set_option maxHeartbeats 1600000 in
set_option maxRecDepth 100000 in
theorem law_walk (a0 a1 a2 a3 : ByteArray) (w : World) (_w0 : a0.size ≤ 140737488351232) (_w1 : a1.size ≤ 140737488351232) (_w2 : a2.size ≤ 140737488351232) (_w3 : a3.size ≤ 140737488351232) :
    Calls Try.prog 5 #[.string a0, .string a1, .string a2, .string a3] w fun e w' => e = .returned (.bool true) ∧ Below w.heap.size w w' := by
  clear _w0 _w1 _w2 _w3
  by_cases c0 : 1048576 < a0.size
  · have c0b : decide (1048576 < a0.size) = true := decide_eq_true c0
    have c0z : decide (1048576 < (a0.size : Int)) = true := decide_eq_true (by omega)
    clear c0
    go_enter Try.func5, Try.ntmps5
    go_wp2
    go_ret
    exact ⟨rfl, Below.refl _ _⟩
  have c0b : decide (1048576 < a0.size) = false := decide_eq_false c0
  have c0z : decide (1048576 < (a0.size : Int)) = false := decide_eq_false (by omega)
  have k0 : a0.size ≤ 1048576 := by omega
  clear c0
  by_cases c1 : 1048576 < a1.size
  · have c1b : decide (1048576 < a1.size) = true := decide_eq_true c1
    have c1z : decide (1048576 < (a1.size : Int)) = true := decide_eq_true (by omega)
    clear c1 k0
    go_enter Try.func5, Try.ntmps5
    go_wp2
    go_ret
    exact ⟨rfl, Below.refl _ _⟩
  have c1b : decide (1048576 < a1.size) = false := decide_eq_false c1
  have c1z : decide (1048576 < (a1.size : Int)) = false := decide_eq_false (by omega)
  have k1 : a1.size ≤ 1048576 := by omega
  clear c1
  by_cases c2 : 1048576 < a2.size
  · have c2b : decide (1048576 < a2.size) = true := decide_eq_true c2
    have c2z : decide (1048576 < (a2.size : Int)) = true := decide_eq_true (by omega)
    clear c2 k0 k1
    go_enter Try.func5, Try.ntmps5
    go_wp2
    go_ret
    exact ⟨rfl, Below.refl _ _⟩
  have c2b : decide (1048576 < a2.size) = false := decide_eq_false c2
  have c2z : decide (1048576 < (a2.size : Int)) = false := decide_eq_false (by omega)
  have k2 : a2.size ≤ 1048576 := by omega
  clear c2
  by_cases c3 : 1048576 < a3.size
  · have c3b : decide (1048576 < a3.size) = true := decide_eq_true c3
    have c3z : decide (1048576 < (a3.size : Int)) = true := decide_eq_true (by omega)
    clear c3 k0 k1 k2
    go_enter Try.func5, Try.ntmps5
    go_wp2
    go_ret
    exact ⟨rfl, Below.refl _ _⟩
  have c3b : decide (1048576 < a3.size) = false := decide_eq_false c3
  have c3z : decide (1048576 < (a3.size : Int)) = false := decide_eq_false (by omega)
  have k3 : a3.size ≤ 1048576 := by omega
  clear c3
  go_enter Try.func5, Try.ntmps5
  go_wp2_with (first | (go_at_call 27; refine (spec_key _ _ _ _ _ k0 k1 k2 k3).mono ?_; rintro e w' ⟨rfl, rfl⟩) | (go_at_call 28; refine (impl_key _ _ _ _ _ k0 k1 k2 k3).mono ?_; rintro e w' ⟨rfl, rfl⟩))
  go_ret
  exact ⟨rfl, Below.refl _ _⟩
end Go.Proofs.Ytdnnkfiocoakkaa.PFnExactIndexKey
