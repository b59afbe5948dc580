/- At every argument the program's OldestOf answers as the reference's. -/
import Derived.Test.YtapholbdjccapaaRows
import Derived.Test.YtapholbdjccapaaTF8
import Derived.WalkKit
import Derived.ProofKit
import Derived.OpenShut
import Derived.ShutString
import Derived.ChangeOld
import Derived.Below
import Derived.SizedLaws
import Derived.Carry
set_option maxHeartbeats 64000000
set_option maxRecDepth 100000
set_option linter.unusedVariables false
set_option linter.unusedSimpArgs false
namespace Go.Proofs.Ytapholbdjccapaa.fnExactOldestOf
open Go.ChangeShapes Go.WideShapes Go.ChangeAt Go.RowKit
open Go.ChangeMaps (open_string shut_string)
open Go.Proofs.Ytapholbdjccapaa.Opened Go.Proofs.Ytapholbdjccapaa.PFnExactTreeOk Go.Proofs.YtapholbdjccapaaW.PrintWords
theorem own : ownKnob Try.prog.godebug = none := by kernel_rfl
theorem laidOut : laidOutB Try.prog = true := Head.laid
theorem opens187 : Opens Try.prog 187 k187 (fun s => s.f1.size ≤ 9223372036854775807) := by
 have h := opens_struct (P := Try.prog) Try.underlying187 (parts_cons (opens_int Try.underlying3) rfl (by kernel_rfl) (parts_last (opens_string Try.underlying9) rfl (by kernel_rfl)) rfl) (by kernel_rfl) (fun x : S187 => (x.f0, x.f1)) (fun p => ⟨p.1, p.2⟩) (fun _ => rfl)
 intro H enc w base spare held fuel cs x hx
 obtain ⟨y, h1, h2⟩ := h _ enc w base spare held fuel cs x hx
 exact ⟨y, h1, h2.2⟩
theorem opens_bool {P : Program} {t : TypeId} (hu : P.underlying t = some .bool) : Opens P t Kd.bool (fun _ => True) := by
 intro H enc w base spare held fuel cs x h
 obtain ⟨n, rfl, _⟩ := DataW.trod_bool hu h
 exact ⟨n, rfl, trivial⟩
def okS25 (x : S25) : Prop := (∀ s ∈ x.f0, s.size ≤ 9223372036854775807) ∧ ∀ s ∈ x.f1, s.f1.size ≤ 9223372036854775807
theorem opens25' : Opens Try.prog 25 k25 okS25 :=
 opens_struct (P := Try.prog) Try.underlying25 (parts_cons (opens_slice Try.underlying22 (opens_string Try.underlying9) (by kernel_rfl) 9) rfl (by kernel_rfl) (parts_last (opens_slice Try.underlying23 opens187 (by kernel_rfl) 187) rfl (by kernel_rfl)) rfl) (by kernel_rfl) (fun x : S25 => (x.f0, x.f1)) (fun p => ⟨p.1, p.2⟩) (fun _ => rfl)
theorem opens198' : Opens Try.prog 198 k198 (fun s => True ∧ ∀ y ∈ s.f1, True) :=
 opens_struct (P := Try.prog) Try.underlying198 (parts_cons (opens_int Try.underlying3) rfl (by kernel_rfl) (parts_last (opens_slice Try.underlying30 (opens_int Try.underlying3) (by kernel_rfl) 3) rfl (by kernel_rfl)) rfl) (by kernel_rfl) (fun x : S198 => (x.f0, x.f1)) (fun p => ⟨p.1, p.2⟩) (fun _ => rfl)
theorem opens28' : Opens Try.prog 28 k28 (fun x => True ∧ True ∧ True ∧ ∀ s ∈ x.f3, True ∧ ∀ y ∈ s.f1, True) :=
 opens_struct (P := Try.prog) Try.underlying28 (parts_cons (opens_int Try.underlying3) rfl (by kernel_rfl) (parts_cons (opens_int Try.underlying3) rfl (by kernel_rfl) (parts_cons (opens_int Try.underlying3) rfl (by kernel_rfl) (parts_last (opens_slice Try.underlying26 opens198' (by kernel_rfl) 198) rfl (by kernel_rfl)) rfl) rfl) rfl) (by kernel_rfl) (fun x : S28 => (x.f0, x.f1, x.f2, x.f3)) (fun p => ⟨p.1, p.2.1, p.2.2.1, p.2.2.2⟩) (fun _ => rfl)
theorem opens162' : ∃ ok, Opens Try.prog 162 k162 ok := ⟨_,
 opens_struct (P := Try.prog) Try.underlying162 (parts_cons (opens_int Try.underlying3) rfl (by kernel_rfl) (parts_last opens28' rfl (by kernel_rfl)) rfl) (by kernel_rfl) (fun x : S162 => (x.f0, x.f1)) (fun p => ⟨p.1, p.2⟩) (fun _ => rfl)⟩
theorem opens32' : ∃ ok, Opens Try.prog 32 k32 ok ∧ ∀ x, ok x → okS25 x.f0 := ⟨_,
 opens_struct (P := Try.prog) Try.underlying32 (parts_cons opens25' rfl (by kernel_rfl) (parts_cons (opens_int Try.underlying3) rfl (by kernel_rfl) (parts_cons (opens_slice Try.underlying30 (opens_int Try.underlying3) (by kernel_rfl) 3) rfl (by kernel_rfl) (parts_cons (opens_slice Try.underlying30 (opens_int Try.underlying3) (by kernel_rfl) 3) rfl (by kernel_rfl) (parts_last (opens_slice Try.underlying30 (opens_int Try.underlying3) (by kernel_rfl) 3) rfl (by kernel_rfl)) rfl) rfl) rfl) rfl) (by kernel_rfl) (fun x : S32 => (x.f0, x.f1, x.f2, x.f3, x.f4)) (fun p => ⟨p.1, p.2.1, p.2.2.1, p.2.2.2.1, p.2.2.2.2⟩) (fun _ => rfl), fun x h => h.1⟩
theorem opens34' : ∃ ok, Opens Try.prog 34 k34 ok ∧ ∀ x, ok x → okS25 x.f1.f0 := by
 obtain ⟨ok, h, ho⟩ := opens32'
 exact ⟨_, opens_struct (P := Try.prog) Try.underlying34 (parts_cons opens28' rfl (by kernel_rfl) (parts_cons h rfl (by kernel_rfl) (parts_last (opens_int Try.underlying3) rfl (by kernel_rfl)) rfl) rfl) (by kernel_rfl) (fun x : S34 => (x.f0, x.f1, x.f2)) (fun p => ⟨p.1, p.2.1, p.2.2⟩) (fun _ => rfl), fun x h => ho _ h.2.1⟩
theorem opens36' : ∃ ok, Opens Try.prog 36 k36 ok ∧ ∀ x, ok x → okS25 x.f0 ∧ okS25 x.f3.f1.f0 := by
 obtain ⟨ok, h, ho⟩ := opens34'
 obtain ⟨ok2, h2⟩ := opens162'
 exact ⟨_, opens_struct (P := Try.prog) Try.underlying36 (parts_cons opens25' rfl (by kernel_rfl) (parts_cons opens28' rfl (by kernel_rfl) (parts_cons (opens_slice Try.underlying29 h2 (by kernel_rfl) 162) rfl (by kernel_rfl) (parts_cons h rfl (by kernel_rfl) (parts_cons (opens_bool Try.underlying4) rfl (by kernel_rfl) (parts_last (opens_bool Try.underlying4) rfl (by kernel_rfl)) rfl) rfl) rfl) rfl) rfl) (by kernel_rfl) (fun x : S36 => (x.f0, x.f1, x.f2, x.f3, x.f4, x.f5)) (fun p => ⟨p.1, p.2.1, p.2.2.1, p.2.2.2.1, p.2.2.2.2.1, p.2.2.2.2.2⟩) (fun _ => rfl), fun x h => ⟨h.1, ho _ h.2.2.2.1⟩⟩
theorem C198_len {w : World} {A : Option Addr} {n : Nat} {xs : List S198} (h : Kd.C k198 w A n xs) (hn : n = xs.length) : INm xs := by
 subst hn
 refine ⟨fun s hs => ?_, h.2.1⟩
 obtain ⟨j, hj, rfl⟩ := List.getElem_of_mem hs
 obtain ⟨_, _, _, _, _, _, _, hC⟩ := at_T198 h (j : Int) (by omega) (by omega)
 rw [rd_T198_nat _ _ hj] at hC
 exact hC.2.1
theorem C162_len {w : World} {A : Option Addr} {n : Nat} {xs : List S162} (h : Kd.C k162 w A n xs) (hn : n = xs.length) : ∀ s ∈ xs, INm s.f1.f3 := by
 subst hn
 intro s hs
 obtain ⟨j, hj, rfl⟩ := List.getElem_of_mem hs
 obtain ⟨_, _, _, _, _, _, _, _, _, _, hC⟩ := at_T162 h (j : Int) (by omega) (by omega)
 rw [rd_T162_nat _ _ hj] at hC
 exact C198_len hC rfl
theorem open_store {H : Type} {enc : TypeId × Value → H} {w : World} {base b0 : Nat} {spare : Nat → Bool} {held : Bool} {r : Reach} {v : Value} {x : DataW H} {p : List MemPlace} (hv : Value.okWide Try.prog w r b0 36 v) (h : DataW.Trod enc Try.prog w base spare held 36 v x p) :
  ∃ x : S36, ∃ cs, v = .agg cs.toArray ∧ k36.K w x cs ∧ okS25 x.f0 ∧ okS25 x.f3.f1.f0 := by
 obtain ⟨ok, ho, hk⟩ := opens36'
 obtain ⟨x, cs, rfl, h1, h2⟩ := arg_struct Try.underlying36 ho hv h
 exact ⟨x, cs, rfl, h1, (hk _ h2).1, (hk _ h2).2⟩
theorem lifted (os : Os) (started : os.Started) (H : Type) (enc : TypeId × Value → H) :
  ReturnsInHanded {} Try.checked os 3 .any (Rows.fnExactOldestOfSpec.pre6 enc Try.prog Try.f3 Rows.fnExactOldestOfRow.domain false) (Rows.fnExactOldestOfSpec.post enc Try.prog Try.f3 false true false false) := by
 refine returnsInHanded_of_change_sized (C := Try.checked) own started (by kernel_rfl) Try.func3
  (ChangeSpec.witness6 (enc := enc) (C := Try.checked) false ⟨#[], #[.agg #[.slice none 0 0, .slice none 0 0, .int .i64 0, .int .i64 0, .int .i64 0, .slice none 0 0, .slice none 0 0, .int .i64 0, .int .i64 0, .int .i64 0, .slice none 0 0, .slice none 0 0, .slice none 0 0, .int .i64 0, .slice none 0 0, .slice none 0 0, .slice none 0 0, .int .i64 0, .bool false, .bool false]], []⟩ 8 (by kernel_rfl) (by kernel_rfl) (by kernel_rfl) (by kernel_rfl)) ?_
 intro W base args ds gs before hval0 hW hcnd hsz0 _
 have hsz : (DataW.weightsEach Try.prog (Try.f3.params.toList ++ Rows.fnExactOldestOfSpec.plain.varTypes Try.prog) (ds ++ gs)).all (· ≤ reachBytes) = true := hsz0
 have hval : ∀ (j : Nat) t v, Try.f3.params[j]? = some t → args[j]? = some v → Value.okWide Try.prog W .any base t v := hval0
 have hW' := hW
 obtain ⟨p, q, hA0, hV, rfl, hfz, hnd⟩ := hW
 have hA : DataW.TrodAll enc Try.prog W 0 (fun _ => true) true Try.f3.params.toList args.toList ds p := hA0
 rw [Try.params3] at hA hval hsz
 obtain ⟨v0, vs0, d0, ds0, p0, q0, hargs, rfl, rfl, h0, r0⟩ := trodAll_cons hA
 obtain ⟨rfl, rfl, rfl⟩ := trodAll_nil r0
 obtain rfl : args = #[v0] := by cases args; simp_all
 obtain ⟨rfl, rfl⟩ := trodVars_none hV
 have k0 := h0
 have lt0 : ∀ x ∈ p0, x.block < W.heap.size := by obtain ⟨m, hm⟩ := k0; exact DataW.trod_lt m _ _ _ hm
 obtain ⟨x, cs, rfl, hK, okA, okB⟩ := open_store (hval 0 36 v0 rfl rfl) h0
 clear hA0 hval0 hsz0 hsz
 obtain ⟨A0, c0, A1, c1, A5, c5, A6, c6, A10, c10, A11, c11, A12, c12, A14, c14, A15, c15, A16, c16, rfl, l0, g0, l1, g1, l5, g5, l6, g6, l10, g10, l11, g11, l12, g12, l14, g14, l15, g15, l16, g16⟩ := k36_open hK
 refine (oldest_law A0 c0 x.f0.f0 A1 c1 x.f0.f1 x.f1.f0 x.f1.f1 x.f1.f2 A5 c5 x.f1.f3 A6 c6 x.f2 x.f3.f0.f0 x.f3.f0.f1 x.f3.f0.f2 A10 c10 x.f3.f0.f3 A11 c11 x.f3.f1.f0.f0 A12 c12 x.f3.f1.f0.f1 x.f3.f1.f1 A14 c14 x.f3.f1.f2 A15 c15 x.f3.f1.f3 A16 c16 x.f3.f1.f4 x.f3.f2 x.f4 x.f5 W g0 l0 g1 l1 g5 l5 g6 l6 g10 l10 g11 l11 g12 l12 g14 l14 g15 l15 g16 l16 ⟨okA.1, g0.2.1, okA.2, g1.2.1⟩ (C198_len g5 rfl) (C162_len g6 rfl) g6.2.1 (C198_len g10 rfl) ⟨okB.1, g11.2.1, okB.2, g12.2.1⟩ g14.2.1 g15.2.1 g16.2.1).mono fun e W' ⟨he, bel⟩ => ?_
 subst he
 exact ⟨_, rfl, _, _, _, [], _, [], hW', trodAll_mk1 (shut_bool Try.underlying4 _), (trodAll_cons_mk (Below.trod laidOut (by kernel_rfl) (of_decide_eq_true (by kernel_rfl)) k0 bel lt0) trodAll_mk0), rfl, bel.frame _, fun h => by cases h⟩
theorem lifts : (Rows.fnExactOldestOfRow.lifted == Try.prog.liftsFinal) = true := Head.lifts
theorem made : (Try.prog.make == some Rows.fnExactOldestOfRow.make) = true := Head.made
theorem plain : (Rows.fnExactOldestOfRow.plainKeys == Try.prog.plainKeys) = true := Head.plain
theorem jf : joinedFacts Try.prog 3 Try.f3 Rows.fnExactOldestOfSpec Rows.fnExactOldestOfRow = true := by
 unfold joinedFacts
 simp only [Bool.and_eq_true]
 repeat' apply And.intro
 all_goals first | with_reducible exact Head.laid | with_reducible exact Head.maps | with_reducible exact Head.heard | with_reducible exact Head.may | with_reducible exact lifts | with_reducible exact made | with_reducible exact plain | (as_aux_lemma => kernel_rfl)
theorem fnm : Try.prog.funcNamed Rows.fnExactOldestOfRow.func = some 3 := by kernel_rfl
theorem inst : Try.f3.isInstance Try.prog Rows.fnExactOldestOfRow.origin Rows.fnExactOldestOfRow.targs := of_decide_eq_true (by kernel_rfl)
theorem wrap : Try.f3.isWrapper Try.prog Rows.fnExactOldestOfRow.wrapper Rows.fnExactOldestOfRow.mainSum := by
 unfold Func.isWrapper
 rw [if_neg (by decide +kernel)]
 exact ⟨rfl, rfl⟩
theorem over : Rows.fnExactOldestOfRow.holds Try.pinned (OpenSpec.ofChange Rows.fnExactOldestOfSpec) :=
 OpenClaim.holds_of_wide 3 Try.f3 rfl rfl rfl rfl rfl rfl rfl ⟨rfl, rfl, rfl, rfl, rfl⟩ rfl rfl rfl rfl rfl fnm Try.func3 jf inst wrap
  (fun os started H enc _ => lifted os started H enc)
theorem proved : Rows.FnExactOldestOfSaid := over
end Go.Proofs.Ytapholbdjccapaa.fnExactOldestOf
namespace Go.Proofs.Ytapholbdjccapaa
theorem fnExactOldestOf_holds : Rows.FnExactOldestOfSaid := fnExactOldestOf.proved
end Go.Proofs.Ytapholbdjccapaa
