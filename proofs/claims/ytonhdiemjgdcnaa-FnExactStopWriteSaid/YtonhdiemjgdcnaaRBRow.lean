/- At every argument the program's StopWrite answers as the reference's. -/
import Derived.Test.YtonhdiemjgdcnaaRows
import Derived.Test.YtonhdiemjgdcnaaRB12
import Derived.WalkKit
import Derived.ProofKit
import Derived.OpenShut
import Derived.ShutString
import Derived.ChangeOld
import Derived.Below
import Derived.SizedLaws
import Derived.Carry
set_option maxHeartbeats 64000000
set_option maxRecDepth 100000
set_option linter.unusedVariables false
set_option linter.unusedSimpArgs false
namespace Go.Proofs.Ytonhdiemjgdcnaa.fnExactStopWrite
open Go.ChangeShapes Go.WideShapes Go.ChangeAt Go.RowKit
open Go.ChangeMaps (open_string shut_string)
open Go.Proofs.Ytonhdiemjgdcnaa.Opened Go.Proofs.Ytonhdiemjgdcnaa.PFnExactGivePage Go.Proofs.YtonhdiemjgdcnaaW.PrintWords
theorem own : ownKnob Try.prog.godebug = none := by kernel_rfl
theorem laidOut : laidOutB Try.prog = true := Head.laid
theorem lifted (os : Os) (started : os.Started) (H : Type) (enc : TypeId × Value → H) :
  ReturnsInHanded {} Try.checked os 7 .any (Rows.fnExactStopWriteSpec.pre6 enc Try.prog Try.f7 Rows.fnExactStopWriteRow.domain false) (Rows.fnExactStopWriteSpec.post enc Try.prog Try.f7 false true false false) := by
 refine returnsInHanded_of_change_sized (C := Try.checked) own started (by kernel_rfl) Try.func7
  (ChangeSpec.witness6 (enc := enc) (C := Try.checked) false ⟨#[], #[.agg #[.slice none 0 0, .slice none 0 0, .int .i64 0, .int .i64 0, .int .i64 0, .slice none 0 0, .slice none 0 0, .int .i64 0, .int .i64 0, .int .i64 0, .slice none 0 0, .slice none 0 0, .slice none 0 0, .int .i64 0, .slice none 0 0, .slice none 0 0, .slice none 0 0, .int .i64 0, .bool false, .bool false]], []⟩ 8 (by kernel_rfl) (by kernel_rfl) (by kernel_rfl) (by kernel_rfl)) ?_
 intro W base args ds gs before hval0 hW hcnd hsz0 _
 have hsz : (DataW.weightsEach Try.prog (Try.f7.params.toList ++ Rows.fnExactStopWriteSpec.plain.varTypes Try.prog) (ds ++ gs)).all (· ≤ reachBytes) = true := hsz0
 have hval : ∀ (j : Nat) t v, Try.f7.params[j]? = some t → args[j]? = some v → Value.okWide Try.prog W .any base t v := hval0
 have hW' := hW
 obtain ⟨p, q, hA0, hV, rfl, hfz, hnd⟩ := hW
 have hA : DataW.TrodAll enc Try.prog W 0 (fun _ => true) true Try.f7.params.toList args.toList ds p := hA0
 rw [Try.params7] at hA hval hsz
 obtain ⟨v0, vs0, d0, ds0, p0, q0, hargs, rfl, rfl, h0, r0⟩ := trodAll_cons hA
 obtain ⟨rfl, rfl, rfl⟩ := trodAll_nil r0
 obtain rfl : args = #[v0] := by cases args; simp_all
 obtain ⟨rfl, rfl⟩ := trodVars_none hV
 have k0 := h0
 have lt0 : ∀ x ∈ p0, x.block < W.heap.size := by obtain ⟨m, hm⟩ := k0; exact DataW.trod_lt m _ _ _ hm
 obtain ⟨a0, cs0, rfl, hK0, hI0⟩ := open_store (hval 0 74 v0 rfl rfl) h0
 clear hA0 hval0 hsz0 hsz
 refine (stop_law a0 hI0 W hK0).mono fun e W' ⟨he, bel⟩ => ?_
 subst he
 exact ⟨_, rfl, _, _, _, [], _, [], hW', trodAll_mk1 (shut_bool Try.underlying4 _), (trodAll_cons_mk (Below.trod laidOut (by kernel_rfl) (of_decide_eq_true (by kernel_rfl)) k0 bel lt0) trodAll_mk0), rfl, bel.frame _, fun h => by cases h⟩
theorem lifts : (Rows.fnExactStopWriteRow.lifted == Try.prog.liftsFinal) = true := Head.lifts
theorem made : (Try.prog.make == some Rows.fnExactStopWriteRow.make) = true := Head.made
theorem plain : (Rows.fnExactStopWriteRow.plainKeys == Try.prog.plainKeys) = true := Head.plain
theorem jf : joinedFacts Try.prog 7 Try.f7 Rows.fnExactStopWriteSpec Rows.fnExactStopWriteRow = true := by
 unfold joinedFacts
 simp only [Bool.and_eq_true]
 repeat' apply And.intro
 all_goals first | with_reducible exact Head.laid | with_reducible exact Head.maps | with_reducible exact Head.heard | with_reducible exact Head.may | with_reducible exact lifts | with_reducible exact made | with_reducible exact plain | (as_aux_lemma => kernel_rfl)
theorem fnm : Try.prog.funcNamed Rows.fnExactStopWriteRow.func = some 7 := by kernel_rfl
theorem inst : Try.f7.isInstance Try.prog Rows.fnExactStopWriteRow.origin Rows.fnExactStopWriteRow.targs := of_decide_eq_true (by kernel_rfl)
theorem wrap : Try.f7.isWrapper Try.prog Rows.fnExactStopWriteRow.wrapper Rows.fnExactStopWriteRow.mainSum := by
 unfold Func.isWrapper
 rw [if_neg (by decide +kernel)]
 exact ⟨rfl, rfl⟩
theorem over : Rows.fnExactStopWriteRow.holds Try.pinned (OpenSpec.ofChange Rows.fnExactStopWriteSpec) :=
 OpenClaim.holds_of_wide 7 Try.f7 rfl rfl rfl rfl rfl rfl rfl ⟨rfl, rfl, rfl, rfl, rfl⟩ rfl rfl rfl rfl rfl fnm Try.func7 jf inst wrap
  (fun os started H enc _ => lifted os started H enc)
theorem proved : Rows.FnExactStopWriteSaid := over
end Go.Proofs.Ytonhdiemjgdcnaa.fnExactStopWrite
namespace Go.Proofs.Ytonhdiemjgdcnaa
theorem fnExactStopWrite_holds : Rows.FnExactStopWriteSaid := fnExactStopWrite.proved
end Go.Proofs.Ytonhdiemjgdcnaa
