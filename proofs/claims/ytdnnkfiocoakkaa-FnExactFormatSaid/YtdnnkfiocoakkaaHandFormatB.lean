import Derived.Test.YtdnnkfiocoakkaaPFnExactFormaty5
namespace Go.Proofs.Ytdnnkfiocoakkaa.PFnExactFormat
open Go.RowKit Go.Proofs.YtdnnkfiocoakkaaW.PrintWords Go.Proofs.YtdnnkfiocoakkaaW.PrintLast Go.Proofs.YtdnnkfiocoakkaaW.PrintMore
set_option linter.unusedVariables false
set_option linter.unusedSimpArgs false
theorem impl_in_tx : impl_in.f 0 0 100000 = some true := by kernel_rfl
theorem impl_in_next : impl_in.f 2 2 40 = some true := by kernel_rfl
set_option maxHeartbeats 4000000 in
set_option maxRecDepth 100000 in
theorem impl_metaOk_zero (A : Option Addr) (c : Nat) (w : World) : Calls Try.prog 55 #[.agg #[.int .i64 0, .int .i64 0, .int .i64 2, .slice A 0 c]] w fun e w' => e = .returned (.bool true) ∧ Below w.heap.size w w' := by
  go_enter Try.func55, Try.ntmps55
  go_wp2_with fail
  ((with_reducible refine (impl_in.calls 0 0 100000 true _ impl_in_tx).mono ?_); rintro e w' ⟨rfl, ⟨nd, rfl⟩⟩)
  go_wp2_with fail
  ((with_reducible refine (impl_in.calls 2 2 40 true _ impl_in_next).mono ?_); rintro e w' ⟨rfl, ⟨nd2, rfl⟩⟩)
  go_wp2_with fail
  refine wp_loop_rounds 1 ?_
  rw [rounds_succ]
  go_wp2
  go_ret
  refine ⟨rfl, ?_⟩
  exact below_alloc (pw_below_drewN (below_alloc (Below.refl _ _) _) _) _
/-- The program's MetaOk at the one meta that Format asks: no tree, the next page 2. -/
def impl_MetaOk.f (a0_0 : Int) (a0_1 : Int) (a0_2 : Int) (l0_3 : List (S153)) : Option Bool := if a0_0 = 0 then (if a0_1 = 0 then (if a0_2 = 2 then (if l0_3.length = 0 then some true else none) else none) else none) else none
theorem impl_MetaOk.calls (a0_0 : Int) (a0_1 : Int) (a0_2 : Int) (A0_3 : Option Addr) (c0_3 : Nat) (l0_3 : List (S153)) (r : Bool) (w : World) (hr0_3 : Kd.C k153 w A0_3 l0_3.length l0_3) (hc0_3 : l0_3.length ≤ c0_3) (h : impl_MetaOk.f a0_0 a0_1 a0_2 l0_3 = some r) :
    Calls Try.prog 55 #[.agg #[.int .i64 a0_0, .int .i64 a0_1, .int .i64 a0_2, .slice A0_3 l0_3.length c0_3]] w fun e w' => e = .returned (.bool r) ∧ Below w.heap.size w w' := by
  unfold impl_MetaOk.f at h
  split at h
  · split at h
    · split at h
      · split at h
        · rename_i h0 h1 h2 h3
          subst h0 h1 h2
          rw [h3]
          obtain rfl := Option.some.inj h
          exact impl_metaOk_zero _ _ _
        · cases h
      · cases h
    · cases h
  · cases h
end Go.Proofs.Ytdnnkfiocoakkaa.PFnExactFormat
