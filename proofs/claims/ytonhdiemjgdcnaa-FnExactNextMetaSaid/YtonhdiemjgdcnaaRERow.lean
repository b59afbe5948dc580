/- The program's NextMeta returns what the reference's returns, for all arguments. -/
import Derived.Test.YtonhdiemjgdcnaaRows
import Derived.Test.YtonhdiemjgdcnaaRE9
import Derived.WalkKit
import Derived.ProofKit
import Derived.OpenShut
import Derived.ShutString
import Derived.ChangeOld
import Derived.Below
import Derived.SizedLaws
import Derived.Carry
set_option maxHeartbeats 64000000
set_option maxRecDepth 100000
set_option linter.unusedVariables false
set_option linter.unusedSimpArgs false
namespace Go.Proofs.Ytonhdiemjgdcnaa.fnExactNextMeta
open Go.ChangeShapes Go.WideShapes Go.ChangeAt Go.RowKit
open Go.ChangeMaps (open_string shut_string)
open Go.Proofs.Ytonhdiemjgdcnaa.Opened Go.Proofs.Ytonhdiemjgdcnaa.PFnExactGivePage Go.Proofs.YtonhdiemjgdcnaaW.PrintWords
theorem own : ownKnob Try.prog.godebug = none := by kernel_rfl
theorem laidOut : laidOutB Try.prog = true := Head.laid
theorem lifted (os : Os) (started : os.Started) (H : Type) (enc : TypeId × Value → H) :
  ReturnsInHanded {} Try.checked os 8 .any (Rows.fnExactNextMetaSpec.pre6 enc Try.prog Try.f8 Rows.fnExactNextMetaRow.domain false) (Rows.fnExactNextMetaSpec.post enc Try.prog Try.f8 false true false false) := by
 refine returnsInHanded_of_change_sized (C := Try.checked) own started (by kernel_rfl) Try.func8
  (ChangeSpec.witness6 (enc := enc) (C := Try.checked) false ⟨#[], #[.agg #[.int .i64 0, .int .i64 0, .int .i64 0, .slice none 0 0, .slice none 0 0, .slice none 0 0, .int .i64 0, .slice none 0 0, .slice none 0 0, .slice none 0 0, .int .i64 0]], []⟩ 8 (by kernel_rfl) (by kernel_rfl) (by kernel_rfl) (by kernel_rfl)) ?_
 intro W base args ds gs before hval0 hW hcnd hsz0 _
 have hsz : (DataW.weightsEach Try.prog (Try.f8.params.toList ++ Rows.fnExactNextMetaSpec.plain.varTypes Try.prog) (ds ++ gs)).all (· ≤ reachBytes) = true := hsz0
 have hval : ∀ (j : Nat) t v, Try.f8.params[j]? = some t → args[j]? = some v → Value.okWide Try.prog W .any base t v := hval0
 have hW' := hW
 obtain ⟨p, q, hA0, hV, rfl, hfz, hnd⟩ := hW
 have hA : DataW.TrodAll enc Try.prog W 0 (fun _ => true) true Try.f8.params.toList args.toList ds p := hA0
 rw [Try.params8] at hA hval hsz
 obtain ⟨v0, vs0, d0, ds0, p0, q0, hargs, rfl, rfl, h0, r0⟩ := trodAll_cons hA
 obtain ⟨rfl, rfl, rfl⟩ := trodAll_nil r0
 obtain rfl : args = #[v0] := by cases args; simp_all
 obtain ⟨rfl, rfl⟩ := trodVars_none hV
 have k0 := h0
 have lt0 : ∀ x ∈ p0, x.block < W.heap.size := by obtain ⟨m, hm⟩ := k0; exact DataW.trod_lt m _ _ _ hm
 obtain ⟨a0, cs0, rfl, hK0, hI0⟩ := open_txnr (hval 0 72 v0 rfl rfl) h0
 clear hA0 hval0 hsz0 hsz
 refine (nm_law a0 hI0 W hK0).mono fun e W' ⟨he, bel⟩ => ?_
 subst he
 exact ⟨_, rfl, _, _, _, [], _, [], hW', trodAll_mk1 (shut_bool Try.underlying4 _), (trodAll_cons_mk (Below.trod laidOut (by kernel_rfl) (of_decide_eq_true (by kernel_rfl)) k0 bel lt0) trodAll_mk0), rfl, bel.frame _, fun h => by cases h⟩
theorem lifts : (Rows.fnExactNextMetaRow.lifted == Try.prog.liftsFinal) = true := Head.lifts
theorem made : (Try.prog.make == some Rows.fnExactNextMetaRow.make) = true := Head.made
theorem plain : (Rows.fnExactNextMetaRow.plainKeys == Try.prog.plainKeys) = true := Head.plain
theorem jf : joinedFacts Try.prog 8 Try.f8 Rows.fnExactNextMetaSpec Rows.fnExactNextMetaRow = true := by
 unfold joinedFacts
 simp only [Bool.and_eq_true]
 repeat' apply And.intro
 all_goals first | with_reducible exact Head.laid | with_reducible exact Head.maps | with_reducible exact Head.heard | with_reducible exact Head.may | with_reducible exact lifts | with_reducible exact made | with_reducible exact plain | (as_aux_lemma => kernel_rfl)
theorem fnm : Try.prog.funcNamed Rows.fnExactNextMetaRow.func = some 8 := by kernel_rfl
theorem inst : Try.f8.isInstance Try.prog Rows.fnExactNextMetaRow.origin Rows.fnExactNextMetaRow.targs := of_decide_eq_true (by kernel_rfl)
theorem wrap : Try.f8.isWrapper Try.prog Rows.fnExactNextMetaRow.wrapper Rows.fnExactNextMetaRow.mainSum := by
 unfold Func.isWrapper
 rw [if_neg (by decide +kernel)]
 exact ⟨rfl, rfl⟩
theorem over : Rows.fnExactNextMetaRow.holds Try.pinned (OpenSpec.ofChange Rows.fnExactNextMetaSpec) :=
 OpenClaim.holds_of_wide 8 Try.f8 rfl rfl rfl rfl rfl rfl rfl ⟨rfl, rfl, rfl, rfl, rfl⟩ rfl rfl rfl rfl rfl fnm Try.func8 jf inst wrap
  (fun os started H enc _ => lifted os started H enc)
theorem proved : Rows.FnExactNextMetaSaid := over
end Go.Proofs.Ytonhdiemjgdcnaa.fnExactNextMeta
namespace Go.Proofs.Ytonhdiemjgdcnaa
theorem fnExactNextMeta_holds : Rows.FnExactNextMetaSaid := fnExactNextMeta.proved
end Go.Proofs.Ytonhdiemjgdcnaa
