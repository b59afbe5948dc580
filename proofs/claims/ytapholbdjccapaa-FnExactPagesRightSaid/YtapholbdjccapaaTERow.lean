/- At every argument the program's PagesRight answers as the reference's. -/
import Derived.Test.YtapholbdjccapaaRows
import Derived.Test.YtapholbdjccapaaTE13
import Derived.WalkKit
import Derived.ProofKit
import Derived.OpenShut
import Derived.ShutString
import Derived.ChangeOld
import Derived.Below
import Derived.SizedLaws
import Derived.Carry
set_option maxHeartbeats 64000000
set_option maxRecDepth 100000
set_option linter.unusedVariables false
set_option linter.unusedSimpArgs false
namespace Go.Proofs.Ytapholbdjccapaa.fnExactPagesRight
open Go.ChangeShapes Go.WideShapes Go.ChangeAt Go.RowKit
open Go.ChangeMaps (open_string shut_string)
open Go.Proofs.Ytapholbdjccapaa.Opened Go.Proofs.Ytapholbdjccapaa.PFnExactTreeOk Go.Proofs.YtapholbdjccapaaW.PrintWords
theorem own : ownKnob Try.prog.godebug = none := by kernel_rfl
theorem laidOut : laidOutB Try.prog = true := Head.laid
def dDisk : Kd (List ByteArray × List S187) := Kd.pair (Kd.slice 9 Kd.string) (Kd.slice 187 k187)
def okDisk (p : List ByteArray × List S187) : Prop := (∀ s ∈ p.1, s.size ≤ 9223372036854775807) ∧ ∀ s ∈ p.2, s.f1.size ≤ 9223372036854775807
theorem opens187 : Opens Try.prog 187 k187 (fun s => s.f1.size ≤ 9223372036854775807) := by
 have h := opens_struct (P := Try.prog) Try.underlying187 (parts_cons (opens_int Try.underlying3) rfl (by kernel_rfl) (parts_last (opens_string Try.underlying9) rfl (by kernel_rfl)) rfl) (by kernel_rfl) (fun x : S187 => (x.f0, x.f1)) (fun p => ⟨p.1, p.2⟩) (fun _ => rfl)
 intro H enc w base spare held fuel cs x hx
 obtain ⟨y, h1, h2⟩ := h _ enc w base spare held fuel cs x hx
 exact ⟨y, h1, h2.2⟩
theorem opens25 : Opens Try.prog 25 (Kd.iso dDisk id) okDisk :=
 opens_struct (P := Try.prog) Try.underlying25 (parts_cons (opens_slice Try.underlying22 (opens_string Try.underlying9) (by kernel_rfl) 9) rfl (by kernel_rfl) (parts_last (opens_slice Try.underlying23 opens187 (by kernel_rfl) 187) rfl (by kernel_rfl)) rfl) (by kernel_rfl) id id (fun _ => rfl)
theorem open_disk {H : Type} {enc : TypeId × Value → H} {w : World} {base b0 : Nat} {spare : Nat → Bool} {held : Bool} {r : Reach} {v : Value} {x : DataW H} {p : List MemPlace} (hv : Value.okWide Try.prog w r b0 25 v) (h : DataW.Trod enc Try.prog w base spare held 25 v x p) :
  ∃ (pages : List ByteArray) (late : List S187) (A : Option Addr) (c : Nat) (B : Option Addr) (d : Nat), v = .agg #[.slice A pages.length c, .slice B late.length d] ∧ Kd.C Kd.string w A pages.length pages ∧ pages.length ≤ c ∧ Kd.C k187 w B late.length late ∧ late.length ≤ d ∧ okDisk (pages, late) := by
 obtain ⟨⟨pages, late⟩, cs, rfl, hk, hok⟩ := arg_struct Try.underlying25 opens25 hv h
 obtain ⟨_, _, rfl, ⟨A, c, rfl, l0, g0⟩, ⟨B, d, rfl, l1, g1⟩⟩ := hk
 exact ⟨pages, late, A, c, B, d, rfl, g0, l0, g1, l1, hok⟩
theorem opens198 : Opens Try.prog 198 k198 (fun s => True ∧ ∀ y ∈ s.f1, True) :=
 opens_struct (P := Try.prog) Try.underlying198 (parts_cons (opens_int Try.underlying3) rfl (by kernel_rfl) (parts_last (opens_slice Try.underlying30 (opens_int Try.underlying3) (by kernel_rfl) 3) rfl (by kernel_rfl)) rfl) (by kernel_rfl) (fun x : S198 => (x.f0, x.f1)) (fun p => ⟨p.1, p.2⟩) (fun _ => rfl)
def dMeta : Kd (Int × Int × Int × List S198) := Kd.pair (Kd.int .i64) (Kd.pair (Kd.int .i64) (Kd.pair (Kd.int .i64) (Kd.slice 198 k198)))
theorem opens28 : Opens Try.prog 28 (Kd.iso dMeta id) (fun p => True ∧ True ∧ True ∧ ∀ s ∈ p.2.2.2, True ∧ ∀ y ∈ s.f1, True) :=
 opens_struct (P := Try.prog) Try.underlying28 (parts_cons (opens_int Try.underlying3) rfl (by kernel_rfl) (parts_cons (opens_int Try.underlying3) rfl (by kernel_rfl) (parts_cons (opens_int Try.underlying3) rfl (by kernel_rfl) (parts_last (opens_slice Try.underlying26 opens198 (by kernel_rfl) 198) rfl (by kernel_rfl)) rfl) rfl) rfl) (by kernel_rfl) id id (fun _ => rfl)
theorem open_meta {H : Type} {enc : TypeId × Value → H} {w : World} {base b0 : Nat} {spare : Nat → Bool} {held : Bool} {r : Reach} {v : Value} {x : DataW H} {p : List MemPlace} (hv : Value.okWide Try.prog w r b0 28 v) (h : DataW.Trod enc Try.prog w base spare held 28 v x p) :
  ∃ (m0 m1 m2 : Int) (frees : List S198) (A : Option Addr) (c : Nat), v = .agg #[.int .i64 m0, .int .i64 m1, .int .i64 m2, .slice A frees.length c] ∧ Kd.C k198 w A frees.length frees ∧ frees.length ≤ c := by
 obtain ⟨⟨m0, m1, m2, frees⟩, cs, rfl, hk, _⟩ := arg_struct Try.underlying28 opens28 hv h
 obtain ⟨_, _, rfl, rfl, ⟨_, _, rfl, rfl, ⟨_, _, rfl, rfl, ⟨A, c, rfl, l0, g0⟩⟩⟩⟩ := hk
 exact ⟨m0, m1, m2, frees, A, c, rfl, g0, l0⟩
theorem C198_len {w : World} {A : Option Addr} {n : Nat} {xs : List S198} (h : Kd.C k198 w A n xs) : ∀ s ∈ xs, s.f1.length ≤ 9223372036854775807 := by
 intro s hs
 obtain ⟨j, hj, rfl⟩ := List.getElem_of_mem hs
 obtain ⟨_, _, _, _, _, _, _, hC⟩ := at_T198 h (j : Int) (by omega) (by have := h.1; omega)
 rw [rd_T198_nat _ _ hj] at hC
 exact hC.2.1
theorem lifted (os : Os) (started : os.Started) (H : Type) (enc : TypeId × Value → H) :
  ReturnsInHanded {} Try.checked os 10 .any (Rows.fnExactPagesRightSpec.pre6 enc Try.prog Try.f10 Rows.fnExactPagesRightRow.domain false) (Rows.fnExactPagesRightSpec.post enc Try.prog Try.f10 false true false false) := by
 refine returnsInHanded_of_change_sized (C := Try.checked) own started (by kernel_rfl) Try.func10
  (ChangeSpec.witness6 (enc := enc) (C := Try.checked) false ⟨#[], #[.agg #[.slice none 0 0, .slice none 0 0], .agg #[.int .i64 0, .int .i64 0, .int .i64 0, .slice none 0 0]], []⟩ 8 (by kernel_rfl) (by kernel_rfl) (by kernel_rfl) (by kernel_rfl)) ?_
 intro W base args ds gs before hval0 hW hcnd hsz0 _
 have hsz : (DataW.weightsEach Try.prog (Try.f10.params.toList ++ Rows.fnExactPagesRightSpec.plain.varTypes Try.prog) (ds ++ gs)).all (· ≤ reachBytes) = true := hsz0
 have hval : ∀ (j : Nat) t v, Try.f10.params[j]? = some t → args[j]? = some v → Value.okWide Try.prog W .any base t v := hval0
 have hW' := hW
 obtain ⟨p, q, hA0, hV, rfl, hfz, hnd⟩ := hW
 have hA : DataW.TrodAll enc Try.prog W 0 (fun _ => true) true Try.f10.params.toList args.toList ds p := hA0
 rw [Try.params10] at hA hval hsz
 obtain ⟨v0, vs0, d0, ds0, p0, q0, hargs, rfl, rfl, h0, r0⟩ := trodAll_cons hA
 obtain ⟨v1, vs1, d1, ds1, p1, q1, rfl, rfl, rfl, h1, r1⟩ := trodAll_cons r0
 obtain ⟨rfl, rfl, rfl⟩ := trodAll_nil r1
 obtain rfl : args = #[v0, v1] := by cases args; simp_all
 obtain ⟨rfl, rfl⟩ := trodVars_none hV
 have k0 := h0
 have lt0 : ∀ x ∈ p0, x.block < W.heap.size := by obtain ⟨m, hm⟩ := k0; exact DataW.trod_lt m _ _ _ hm
 obtain ⟨pages0, late0, A0, c0, B0, e0, rfl, gp0, lp0, gl0, ll0, ok0⟩ := open_disk (hval 0 25 v0 rfl rfl) h0
 have k1 := h1
 have lt1 : ∀ x ∈ p1, x.block < W.heap.size := by obtain ⟨m, hm⟩ := k1; exact DataW.trod_lt m _ _ _ hm
 obtain ⟨m0_1, m1_1, m2_1, frees1, A1, c1, rfl, gp1, lp1⟩ := open_meta (hval 1 28 v1 rfl rfl) h1
 clear hA0 hval0 hsz0 hsz
 refine (pagesRight_law pages0 late0 m0_1 m1_1 m2_1 frees1 ok0.1 gp0.2.1 ok0.2 gl0.2.1 (C198_len gp1) gp1.2.1 A0 c0 B0 e0 A1 c1 W gp0 lp0 gl0 ll0 gp1 lp1).mono fun e W' ⟨he, bel⟩ => ?_
 subst he
 exact ⟨_, rfl, _, _, _, [], _, [], hW', trodAll_mk1 (shut_bool Try.underlying4 _), (trodAll_cons_mk (Below.trod laidOut (by kernel_rfl) (of_decide_eq_true (by kernel_rfl)) k0 bel lt0) (trodAll_cons_mk (Below.trod laidOut (by kernel_rfl) (of_decide_eq_true (by kernel_rfl)) k1 bel lt1) trodAll_mk0)), rfl, bel.frame _, fun h => by cases h⟩
theorem lifts : (Rows.fnExactPagesRightRow.lifted == Try.prog.liftsFinal) = true := Head.lifts
theorem made : (Try.prog.make == some Rows.fnExactPagesRightRow.make) = true := Head.made
theorem plain : (Rows.fnExactPagesRightRow.plainKeys == Try.prog.plainKeys) = true := Head.plain
theorem jf : joinedFacts Try.prog 10 Try.f10 Rows.fnExactPagesRightSpec Rows.fnExactPagesRightRow = true := by
 unfold joinedFacts
 simp only [Bool.and_eq_true]
 repeat' apply And.intro
 all_goals first | with_reducible exact Head.laid | with_reducible exact Head.maps | with_reducible exact Head.heard | with_reducible exact Head.may | with_reducible exact lifts | with_reducible exact made | with_reducible exact plain | (as_aux_lemma => kernel_rfl)
theorem fnm : Try.prog.funcNamed Rows.fnExactPagesRightRow.func = some 10 := by kernel_rfl
theorem inst : Try.f10.isInstance Try.prog Rows.fnExactPagesRightRow.origin Rows.fnExactPagesRightRow.targs := of_decide_eq_true (by kernel_rfl)
theorem wrap : Try.f10.isWrapper Try.prog Rows.fnExactPagesRightRow.wrapper Rows.fnExactPagesRightRow.mainSum := by
 unfold Func.isWrapper
 rw [if_neg (by decide +kernel)]
 exact ⟨rfl, rfl⟩
theorem over : Rows.fnExactPagesRightRow.holds Try.pinned (OpenSpec.ofChange Rows.fnExactPagesRightSpec) :=
 OpenClaim.holds_of_wide 10 Try.f10 rfl rfl rfl rfl rfl rfl rfl ⟨rfl, rfl, rfl, rfl, rfl⟩ rfl rfl rfl rfl rfl fnm Try.func10 jf inst wrap
  (fun os started H enc _ => lifted os started H enc)
theorem proved : Rows.FnExactPagesRightSaid := over
end Go.Proofs.Ytapholbdjccapaa.fnExactPagesRight
namespace Go.Proofs.Ytapholbdjccapaa
theorem fnExactPagesRight_holds : Rows.FnExactPagesRightSaid := fnExactPagesRight.proved
end Go.Proofs.Ytapholbdjccapaa
