import Derived.Test.YtdnnkfiocoakkaaPFnExactThingKeyx0
namespace Go.Proofs.Ytdnnkfiocoakkaa.PFnExactThingKey
open Go.RowKit Go.Proofs.YtdnnkfiocoakkaaW.PrintWords Go.Proofs.YtdnnkfiocoakkaaW.PrintLast Go.Proofs.YtdnnkfiocoakkaaW.PrintMore
def thingKey (a b : ByteArray) : ByteArray := (((⟨#[111]⟩ : ByteArray) ++ a) ++ (⟨#[0]⟩ : ByteArray)) ++ b
set_option maxHeartbeats 800000 in
set_option maxRecDepth 100000 in
theorem spec_key (a0 a1 : ByteArray) (w : World) (h0 : a0.size ≤ 1048576) (h1 : a1.size ≤ 1048576) :
    Calls Try.prog 25 #[.string a0, .string a1] w fun e w' => e = .returned (.string (thingKey a0 a1)) ∧ w = w' := by
  go_enter Try.func25, Try.ntmps25
  go_wp2
  go_ret
  exact ⟨rfl, rfl⟩
set_option maxHeartbeats 800000 in
set_option maxRecDepth 100000 in
theorem impl_key (a0 a1 : ByteArray) (w : World) (h0 : a0.size ≤ 1048576) (h1 : a1.size ≤ 1048576) :
    Calls Try.prog 26 #[.string a0, .string a1] w fun e w' => e = .returned (.string (thingKey a0 a1)) ∧ w = w' := by
  go_enter Try.func26, Try.ntmps26
  go_wp2
  go_ret
  exact ⟨rfl, rfl⟩
set_option maxHeartbeats 800000 in
set_option maxRecDepth 100000 in
theorem law_walk (a0 a1 : ByteArray) (w : World) (_w0 : a0.size ≤ 140737488351232) (_w1 : a1.size ≤ 140737488351232) :
    Calls Try.prog 4 #[.string a0, .string a1] w fun e w' => e = .returned (.bool true) ∧ Below w.heap.size w w' := by
  by_cases c0 : 1048576 < a0.size
  · have c0b : decide (1048576 < a0.size) = true := decide_eq_true c0
    have c0z : decide (1048576 < (a0.size : Int)) = true := decide_eq_true (by omega)
    clear _w0 _w1 c0
    go_enter Try.func4, Try.ntmps4
    go_wp2
    go_ret
    exact ⟨rfl, Below.refl _ _⟩
  · by_cases c1 : 1048576 < a1.size
    · have c0b : decide (1048576 < a0.size) = false := decide_eq_false c0
      have c0z : decide (1048576 < (a0.size : Int)) = false := decide_eq_false (by omega)
      have c1b : decide (1048576 < a1.size) = true := decide_eq_true c1
      have c1z : decide (1048576 < (a1.size : Int)) = true := decide_eq_true (by omega)
      clear _w0 _w1 c0 c1
      go_enter Try.func4, Try.ntmps4
      go_wp2
      go_ret
      exact ⟨rfl, Below.refl _ _⟩
    · have c0b : decide (1048576 < a0.size) = false := decide_eq_false c0
      have c0z : decide (1048576 < (a0.size : Int)) = false := decide_eq_false (by omega)
      have c1b : decide (1048576 < a1.size) = false := decide_eq_false c1
      have c1z : decide (1048576 < (a1.size : Int)) = false := decide_eq_false (by omega)
      have k0 : a0.size ≤ 1048576 := by omega
      have k1 : a1.size ≤ 1048576 := by omega
      clear _w0 _w1 c0 c1
      go_enter Try.func4, Try.ntmps4
      go_wp2_with (first | (go_at_call 25; refine (spec_key _ _ _ k0 k1).mono ?_; rintro e w' ⟨rfl, rfl⟩) | (go_at_call 26; refine (impl_key _ _ _ k0 k1).mono ?_; rintro e w' ⟨rfl, rfl⟩))
      go_ret
      exact ⟨rfl, Below.refl _ _⟩
end Go.Proofs.Ytdnnkfiocoakkaa.PFnExactThingKey
