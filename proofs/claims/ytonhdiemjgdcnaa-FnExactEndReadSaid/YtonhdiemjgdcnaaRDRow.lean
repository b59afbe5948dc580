/- The program's EndRead returns what the reference's returns, for all arguments. -/
import Derived.Test.YtonhdiemjgdcnaaRows
import Derived.Test.YtonhdiemjgdcnaaRD11
import Derived.WalkKit
import Derived.ProofKit
import Derived.OpenShut
import Derived.ShutString
import Derived.ChangeOld
import Derived.Below
import Derived.SizedLaws
import Derived.Carry
set_option maxHeartbeats 64000000
set_option maxRecDepth 100000
set_option linter.unusedVariables false
set_option linter.unusedSimpArgs false
namespace Go.Proofs.Ytonhdiemjgdcnaa.fnExactEndRead
open Go.ChangeShapes Go.WideShapes Go.ChangeAt Go.RowKit
open Go.ChangeMaps (open_string shut_string)
open Go.Proofs.Ytonhdiemjgdcnaa.Opened Go.Proofs.Ytonhdiemjgdcnaa.PFnExactGivePage Go.Proofs.YtonhdiemjgdcnaaW.PrintWords
theorem own : ownKnob Try.prog.godebug = none := by kernel_rfl
theorem laidOut : laidOutB Try.prog = true := Head.laid
theorem lifted (os : Os) (started : os.Started) (H : Type) (enc : TypeId × Value → H) :
  ReturnsInHanded {} Try.checked os 6 .any (Rows.fnExactEndReadSpec.pre6 enc Try.prog Try.f6 Rows.fnExactEndReadRow.domain false) (Rows.fnExactEndReadSpec.post enc Try.prog Try.f6 false true false false) := by
 refine returnsInHanded_of_change_sized (C := Try.checked) own started (by kernel_rfl) Try.func6
  (ChangeSpec.witness6 (enc := enc) (C := Try.checked) false ⟨#[], #[.agg #[.slice none 0 0, .slice none 0 0, .int .i64 0, .int .i64 0, .int .i64 0, .slice none 0 0, .slice none 0 0, .int .i64 0, .int .i64 0, .int .i64 0, .slice none 0 0, .slice none 0 0, .slice none 0 0, .int .i64 0, .slice none 0 0, .slice none 0 0, .slice none 0 0, .int .i64 0, .bool false, .bool false], .int .i64 0], []⟩ 8 (by kernel_rfl) (by kernel_rfl) (by kernel_rfl) (by kernel_rfl)) ?_
 intro W base args ds gs before hval0 hW hcnd hsz0 _
 have hsz : (DataW.weightsEach Try.prog (Try.f6.params.toList ++ Rows.fnExactEndReadSpec.plain.varTypes Try.prog) (ds ++ gs)).all (· ≤ reachBytes) = true := hsz0
 have hval : ∀ (j : Nat) t v, Try.f6.params[j]? = some t → args[j]? = some v → Value.okWide Try.prog W .any base t v := hval0
 have hW' := hW
 obtain ⟨p, q, hA0, hV, rfl, hfz, hnd⟩ := hW
 have hA : DataW.TrodAll enc Try.prog W 0 (fun _ => true) true Try.f6.params.toList args.toList ds p := hA0
 rw [Try.params6] at hA hval hsz
 obtain ⟨v0, vs0, d0, ds0, p0, q0, hargs, rfl, rfl, h0, r0⟩ := trodAll_cons hA
 obtain ⟨v1, vs1, d1, ds1, p1, q1, rfl, rfl, rfl, h1, r1⟩ := trodAll_cons r0
 obtain ⟨rfl, rfl, rfl⟩ := trodAll_nil r1
 obtain rfl : args = #[v0, v1] := by cases args; simp_all
 obtain ⟨rfl, rfl⟩ := trodVars_none hV
 have k0 := h0
 have lt0 : ∀ x ∈ p0, x.block < W.heap.size := by obtain ⟨m, hm⟩ := k0; exact DataW.trod_lt m _ _ _ hm
 obtain ⟨a0, cs0, rfl, hK0, hI0⟩ := open_store (hval 0 74 v0 rfl rfl) h0
 obtain ⟨a1, rfl, rfl, rfl, w1⟩ := open_int Try.underlying3 (hval 1 3 v1 rfl rfl) h1
 clear hA0 hval0 hsz0 hsz
 refine (end_law a0 a1 hI0 W hK0).mono fun e W' ⟨he, bel⟩ => ?_
 subst he
 exact ⟨_, rfl, _, _, _, [], _, [], hW', trodAll_mk1 (shut_bool Try.underlying4 _), (trodAll_cons_mk (Below.trod laidOut (by kernel_rfl) (of_decide_eq_true (by kernel_rfl)) k0 bel lt0) (trodAll_cons_mk (shut_int Try.underlying3 w1) trodAll_mk0)), rfl, bel.frame _, fun h => by cases h⟩
theorem lifts : (Rows.fnExactEndReadRow.lifted == Try.prog.liftsFinal) = true := Head.lifts
theorem made : (Try.prog.make == some Rows.fnExactEndReadRow.make) = true := Head.made
theorem plain : (Rows.fnExactEndReadRow.plainKeys == Try.prog.plainKeys) = true := Head.plain
theorem jf : joinedFacts Try.prog 6 Try.f6 Rows.fnExactEndReadSpec Rows.fnExactEndReadRow = true := by
 unfold joinedFacts
 simp only [Bool.and_eq_true]
 repeat' apply And.intro
 all_goals first | with_reducible exact Head.laid | with_reducible exact Head.maps | with_reducible exact Head.heard | with_reducible exact Head.may | with_reducible exact lifts | with_reducible exact made | with_reducible exact plain | (as_aux_lemma => kernel_rfl)
theorem fnm : Try.prog.funcNamed Rows.fnExactEndReadRow.func = some 6 := by kernel_rfl
theorem inst : Try.f6.isInstance Try.prog Rows.fnExactEndReadRow.origin Rows.fnExactEndReadRow.targs := of_decide_eq_true (by kernel_rfl)
theorem wrap : Try.f6.isWrapper Try.prog Rows.fnExactEndReadRow.wrapper Rows.fnExactEndReadRow.mainSum := by
 unfold Func.isWrapper
 rw [if_neg (by decide +kernel)]
 exact ⟨rfl, rfl⟩
theorem over : Rows.fnExactEndReadRow.holds Try.pinned (OpenSpec.ofChange Rows.fnExactEndReadSpec) :=
 OpenClaim.holds_of_wide 6 Try.f6 rfl rfl rfl rfl rfl rfl rfl ⟨rfl, rfl, rfl, rfl, rfl⟩ rfl rfl rfl rfl rfl fnm Try.func6 jf inst wrap
  (fun os started H enc _ => lifted os started H enc)
theorem proved : Rows.FnExactEndReadSaid := over
end Go.Proofs.Ytonhdiemjgdcnaa.fnExactEndRead
namespace Go.Proofs.Ytonhdiemjgdcnaa
theorem fnExactEndRead_holds : Rows.FnExactEndReadSaid := fnExactEndRead.proved
end Go.Proofs.Ytonhdiemjgdcnaa
