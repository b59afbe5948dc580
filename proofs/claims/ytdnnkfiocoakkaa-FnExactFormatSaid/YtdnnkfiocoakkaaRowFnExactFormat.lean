/- The program's Format returns what the reference's returns, for all arguments. -/
import Derived.Test.YtdnnkfiocoakkaaRows
import Derived.Test.YtdnnkfiocoakkaaPFnExactFormaty12
import Derived.Test.YtdnnkfiocoakkaaPureFnExactFormat
import Derived.Test.YtdnnkfiocoakkaaHead
import Derived.WalkKit
import Derived.ProofKit
import Derived.OpenShut
import Derived.ShutString
import Derived.ChangeOld
import Derived.Below
import Derived.SizedLaws
namespace Go.Proofs.Ytdnnkfiocoakkaa.fnExactFormat
open Go.ChangeShapes Go.WideShapes Go.ChangeAt Go.RowKit
open Go.ChangeMaps (open_string shut_string)
set_option linter.unusedVariables false
theorem own : ownKnob Try.prog.godebug = none := by kernel_rfl
set_option maxRecDepth 100000 in
theorem lifted (os : Os) (started : os.Started) (H : Type) (enc : TypeId × Value → H) :
    ReturnsInHanded {} Try.checked os 8 .any (Rows.fnExactFormatSpec.pre6 enc Try.prog Try.f8 Rows.fnExactFormatRow.domain false) (Rows.fnExactFormatSpec.post enc Try.prog Try.f8 false true false false) := by
  refine returnsInHanded_of_change_sized (C := Try.checked) own started (by kernel_rfl) Try.func8
    (ChangeSpec.witness6 (enc := enc) (C := Try.checked) false ⟨#[], #[.int .i64 0], []⟩ 8 (by kernel_rfl) (by kernel_rfl) (by kernel_rfl) (by kernel_rfl)) ?_
  intro W base args ds gs before hval0 hW hcnd hsz0 _
  have hsz : (DataW.weightsEach Try.prog (Try.f8.params.toList ++ Rows.fnExactFormatSpec.plain.varTypes Try.prog) (ds ++ gs)).all (· ≤ reachBytes) = true := hsz0
  have hval : ∀ (j : Nat) t v, Try.f8.params[j]? = some t → args[j]? = some v → Value.okWide Try.prog W .any base t v := hval0
  have hW' := hW
  obtain ⟨p, q, hA0, hV, rfl, hfz, hnd⟩ := hW
  have hA : DataW.TrodAll enc Try.prog W 0 (fun _ => true) true Try.f8.params.toList args.toList ds p := hA0
  rw [Try.params8] at hA hval hsz
  obtain ⟨v0, vs0, d0, ds0, p0, q0, hargs, rfl, rfl, h0, r0⟩ := trodAll_cons hA
  obtain ⟨rfl, rfl, rfl⟩ := trodAll_nil r0
  obtain rfl : args = #[v0] := by cases args; simp_all
  obtain ⟨rfl, rfl⟩ := trodVars_none hV
  obtain ⟨a0, rfl, rfl, rfl, w0⟩ := open_int Try.underlying3 (hval 0 3 v0 rfl rfl) h0
  clear hA0 hval0 hsz0 hsz
  refine (PFnExactFormat.laws_FnExactFormat.walk Pure.FnExactFormat a0 W w0).mono fun e W' ⟨he, bel⟩ => ?_
  subst he
  exact ⟨_, rfl, _, _, _, [], _, [], hW', trodAll_mk1 (shut_bool Try.underlying4 _), (trodAll_cons_mk (shut_int Try.underlying3 w0) trodAll_mk0), rfl, bel.frame _, fun h => by cases h⟩
theorem lifts : (Rows.fnExactFormatRow.lifted == Try.prog.liftsFinal) = true := Head.lifts
theorem made : (Try.prog.make == some Rows.fnExactFormatRow.make) = true := Head.made
theorem plain : (Rows.fnExactFormatRow.plainKeys == Try.prog.plainKeys) = true := Head.plain
set_option maxHeartbeats 8000000 in
theorem jf : joinedFacts Try.prog 8 Try.f8 Rows.fnExactFormatSpec Rows.fnExactFormatRow = true := by
  unfold joinedFacts
  simp only [Bool.and_eq_true]
  repeat' apply And.intro
  all_goals first | with_reducible exact Head.laid | with_reducible exact Head.maps | with_reducible exact Head.heard | with_reducible exact Head.may | with_reducible exact lifts | with_reducible exact made | with_reducible exact plain | (as_aux_lemma => kernel_rfl)
theorem fnm : Try.prog.funcNamed Rows.fnExactFormatRow.func = some 8 := by kernel_rfl
theorem inst : Try.f8.isInstance Try.prog Rows.fnExactFormatRow.origin Rows.fnExactFormatRow.targs := of_decide_eq_true (by kernel_rfl)
theorem wrap : Try.f8.isWrapper Try.prog Rows.fnExactFormatRow.wrapper Rows.fnExactFormatRow.mainSum := by
  unfold Func.isWrapper
  rw [if_neg (by decide +kernel)]
  exact ⟨rfl, rfl⟩
theorem over : Rows.fnExactFormatRow.holds Try.pinned (OpenSpec.ofChange Rows.fnExactFormatSpec) :=
  OpenClaim.holds_of_wide 8 Try.f8 rfl rfl rfl rfl rfl rfl rfl ⟨rfl, rfl, rfl, rfl, rfl⟩ rfl rfl rfl rfl rfl fnm Try.func8 jf inst wrap
    (fun os started H enc _ => lifted os started H enc)
theorem proved : Rows.FnExactFormatSaid := over
#print axioms proved
end Go.Proofs.Ytdnnkfiocoakkaa.fnExactFormat
namespace Go.Proofs.Ytdnnkfiocoakkaa
/-- The row, under a short name, for the claim. -/
theorem fnExactFormat_holds : Rows.FnExactFormatSaid := fnExactFormat.proved
end Go.Proofs.Ytdnnkfiocoakkaa
