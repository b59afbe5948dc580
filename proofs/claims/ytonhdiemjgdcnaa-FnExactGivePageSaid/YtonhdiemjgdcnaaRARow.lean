/- At every argument the program's GivePage answers as the reference's. -/
import Derived.Test.YtonhdiemjgdcnaaRows
import Derived.Test.YtonhdiemjgdcnaaRA9
import Derived.WalkKit
import Derived.ProofKit
import Derived.OpenShut
import Derived.ShutString
import Derived.ChangeOld
import Derived.Below
import Derived.SizedLaws
import Derived.Carry
set_option maxHeartbeats 64000000
set_option maxRecDepth 100000
set_option linter.unusedVariables false
set_option linter.unusedSimpArgs false
namespace Go.Proofs.Ytonhdiemjgdcnaa.fnExactGivePage
open Go.ChangeShapes Go.WideShapes Go.ChangeAt Go.RowKit
open Go.ChangeMaps (open_string shut_string)
open Go.Proofs.Ytonhdiemjgdcnaa.Opened Go.Proofs.Ytonhdiemjgdcnaa.PFnExactGivePage Go.Proofs.YtonhdiemjgdcnaaW.PrintWords
theorem own : ownKnob Try.prog.godebug = none := by kernel_rfl
theorem laidOut : laidOutB Try.prog = true := Head.laid
def dDisk : Kd (List ByteArray × List S140) := Kd.pair (Kd.slice 9 Kd.string) (Kd.slice 140 k140)
def okDisk (p : List ByteArray × List S140) : Prop := (∀ s ∈ p.1, s.size ≤ 9223372036854775807) ∧ ∀ s ∈ p.2, s.f1.size ≤ 9223372036854775807
theorem opens140 : Opens Try.prog 140 k140 (fun s => s.f1.size ≤ 9223372036854775807) := by
 have h := opens_struct (P := Try.prog) Try.underlying140 (parts_cons (opens_int Try.underlying3) rfl (by kernel_rfl) (parts_last (opens_string Try.underlying9) rfl (by kernel_rfl)) rfl) (by kernel_rfl) (fun x : S140 => (x.f0, x.f1)) (fun p => ⟨p.1, p.2⟩) (fun _ => rfl)
 intro H enc w base spare held fuel cs x hx
 obtain ⟨y, h1, h2⟩ := h _ enc w base spare held fuel cs x hx
 exact ⟨y, h1, h2.2⟩
theorem opens25 : Opens Try.prog 25 (Kd.iso dDisk id) okDisk :=
 opens_struct (P := Try.prog) Try.underlying25 (parts_cons (opens_slice Try.underlying22 (opens_string Try.underlying9) (by kernel_rfl) 9) rfl (by kernel_rfl) (parts_last (opens_slice Try.underlying23 opens140 (by kernel_rfl) 140) rfl (by kernel_rfl)) rfl) (by kernel_rfl) id id (fun _ => rfl)
def dWork : Kd ((List ByteArray × List S140) × Int × List Int × List Int × List Int) := Kd.pair (Kd.iso dDisk id) (Kd.pair (Kd.int .i64) (Kd.pair (Kd.slice 3 (Kd.int .i64)) (Kd.pair (Kd.slice 3 (Kd.int .i64)) (Kd.slice 3 (Kd.int .i64)))))
theorem opensI : Opens Try.prog 26 (Kd.slice 3 (Kd.int .i64)) (fun ys => ∀ y ∈ ys, True) := opens_slice Try.underlying26 (opens_int Try.underlying3) (by kernel_rfl) 3
theorem opens28 : ∃ ok, Opens Try.prog 28 (Kd.iso dWork id) ok ∧ ∀ x, ok x → okDisk x.1 := ⟨_,
 opens_struct (P := Try.prog) Try.underlying28 (parts_cons opens25 rfl (by kernel_rfl) (parts_cons (opens_int Try.underlying3) rfl (by kernel_rfl) (parts_cons opensI rfl (by kernel_rfl) (parts_cons opensI rfl (by kernel_rfl) (parts_last opensI rfl (by kernel_rfl)) rfl) rfl) rfl) rfl) (by kernel_rfl) id id (fun _ => rfl), fun x h => h.1⟩
theorem open_work {H : Type} {enc : TypeId × Value → H} {w : World} {base b0 : Nat} {spare : Nat → Bool} {held : Bool} {r : Reach} {v : Value} {x : DataW H} {p : List MemPlace} (hv : Value.okWide Try.prog w r b0 28 v) (h : DataW.Trod enc Try.prog w base spare held 28 v x p) :
  ∃ (l0 : List ByteArray) (l1 : List S140) (l2 : Int) (l3 l4 l5 : List Int) (A0 : Option Addr) (c0 : Nat) (A1 : Option Addr) (c1 : Nat) (A3 : Option Addr) (c3 : Nat) (A4 : Option Addr) (c4 : Nat) (A5 : Option Addr) (c5 : Nat), v = .agg #[.slice A0 l0.length c0, .slice A1 l1.length c1, .int .i64 l2, .slice A3 l3.length c3, .slice A4 l4.length c4, .slice A5 l5.length c5] ∧ kWorkL.K w (l0, l1, l2, l3, l4, l5) [.slice A0 l0.length c0, .slice A1 l1.length c1, .int .i64 l2, .slice A3 l3.length c3, .slice A4 l4.length c4, .slice A5 l5.length c5] ∧ INd l0 l1 ∧ INi l3 ∧ INi l4 ∧ INi l5 := by
 obtain ⟨ok, ho, hok⟩ := opens28
 obtain ⟨⟨⟨l0, l1⟩, l2, l3, l4, l5⟩, cs, rfl, hk, hx⟩ := arg_struct Try.underlying28 ho hv h
 have hd := hok _ hx
 obtain ⟨_, _, rfl, ⟨_, _, rfl, ⟨A0, c0, rfl, m0, r0⟩, ⟨A1, c1, rfl, m1, r1⟩⟩, ⟨_, _, rfl, rfl, ⟨_, _, rfl, ⟨A3, c3, rfl, m3, r3⟩, ⟨_, _, rfl, ⟨A4, c4, rfl, m4, r4⟩, ⟨A5, c5, rfl, m5, r5⟩⟩⟩⟩⟩ := hk
 exact ⟨l0, l1, l2, l3, l4, l5, A0, c0, A1, c1, A3, c3, A4, c4, A5, c5, rfl, kWorkL_mk m0 r0 m1 r1 m3 r3 m4 r4 m5 r5, ⟨hd.1, r0.2.1, hd.2, r1.2.1⟩, r3.2.1, r4.2.1, r5.2.1⟩
theorem lifted (os : Os) (started : os.Started) (H : Type) (enc : TypeId × Value → H) :
  ReturnsInHanded {} Try.checked os 3 .any (Rows.fnExactGivePageSpec.pre6 enc Try.prog Try.f3 Rows.fnExactGivePageRow.domain false) (Rows.fnExactGivePageSpec.post enc Try.prog Try.f3 false true false false) := by
 refine returnsInHanded_of_change_sized (C := Try.checked) own started (by kernel_rfl) Try.func3
  (ChangeSpec.witness6 (enc := enc) (C := Try.checked) false ⟨#[], #[.agg #[.slice none 0 0, .slice none 0 0, .int .i64 0, .slice none 0 0, .slice none 0 0, .slice none 0 0]], []⟩ 8 (by kernel_rfl) (by kernel_rfl) (by kernel_rfl) (by kernel_rfl)) ?_
 intro W base args ds gs before hval0 hW hcnd hsz0 _
 have hsz : (DataW.weightsEach Try.prog (Try.f3.params.toList ++ Rows.fnExactGivePageSpec.plain.varTypes Try.prog) (ds ++ gs)).all (· ≤ reachBytes) = true := hsz0
 have hval : ∀ (j : Nat) t v, Try.f3.params[j]? = some t → args[j]? = some v → Value.okWide Try.prog W .any base t v := hval0
 have hW' := hW
 obtain ⟨p, q, hA0, hV, rfl, hfz, hnd⟩ := hW
 have hA : DataW.TrodAll enc Try.prog W 0 (fun _ => true) true Try.f3.params.toList args.toList ds p := hA0
 rw [Try.params3] at hA hval hsz
 obtain ⟨v0, vs0, d0, ds0, p0, q0, hargs, rfl, rfl, h0, r0⟩ := trodAll_cons hA
 obtain ⟨rfl, rfl, rfl⟩ := trodAll_nil r0
 obtain rfl : args = #[v0] := by cases args; simp_all
 obtain ⟨rfl, rfl⟩ := trodVars_none hV
 have k0 := h0
 have lt0 : ∀ x ∈ p0, x.block < W.heap.size := by obtain ⟨m, hm⟩ := k0; exact DataW.trod_lt m _ _ _ hm
 obtain ⟨l0, l1, l2, l3, l4, l5, A0, c0, A1, c1, A3, c3, A4, c4, A5, c5, rfl, hK, hD, i3, i4, i5⟩ := open_work (hval 0 28 v0 rfl rfl) h0
 clear hA0 hval0 hsz0 hsz
 refine (give_law l0 l1 l2 l3 l4 l5 hD i3 i4 i5 A0 c0 A1 c1 A3 c3 A4 c4 A5 c5 W hK).mono fun e W' ⟨he, bel⟩ => ?_
 subst he
 exact ⟨_, rfl, _, _, _, [], _, [], hW', trodAll_mk1 (shut_bool Try.underlying4 _), (trodAll_cons_mk (Below.trod laidOut (by kernel_rfl) (of_decide_eq_true (by kernel_rfl)) k0 bel lt0) trodAll_mk0), rfl, bel.frame _, fun h => by cases h⟩
theorem lifts : (Rows.fnExactGivePageRow.lifted == Try.prog.liftsFinal) = true := Head.lifts
theorem made : (Try.prog.make == some Rows.fnExactGivePageRow.make) = true := Head.made
theorem plain : (Rows.fnExactGivePageRow.plainKeys == Try.prog.plainKeys) = true := Head.plain
theorem jf : joinedFacts Try.prog 3 Try.f3 Rows.fnExactGivePageSpec Rows.fnExactGivePageRow = true := by
 unfold joinedFacts
 simp only [Bool.and_eq_true]
 repeat' apply And.intro
 all_goals first | with_reducible exact Head.laid | with_reducible exact Head.maps | with_reducible exact Head.heard | with_reducible exact Head.may | with_reducible exact lifts | with_reducible exact made | with_reducible exact plain | (as_aux_lemma => kernel_rfl)
theorem fnm : Try.prog.funcNamed Rows.fnExactGivePageRow.func = some 3 := by kernel_rfl
theorem inst : Try.f3.isInstance Try.prog Rows.fnExactGivePageRow.origin Rows.fnExactGivePageRow.targs := of_decide_eq_true (by kernel_rfl)
theorem wrap : Try.f3.isWrapper Try.prog Rows.fnExactGivePageRow.wrapper Rows.fnExactGivePageRow.mainSum := by
 unfold Func.isWrapper
 rw [if_neg (by decide +kernel)]
 exact ⟨rfl, rfl⟩
theorem over : Rows.fnExactGivePageRow.holds Try.pinned (OpenSpec.ofChange Rows.fnExactGivePageSpec) :=
 OpenClaim.holds_of_wide 3 Try.f3 rfl rfl rfl rfl rfl rfl rfl ⟨rfl, rfl, rfl, rfl, rfl⟩ rfl rfl rfl rfl rfl fnm Try.func3 jf inst wrap
  (fun os started H enc _ => lifted os started H enc)
theorem proved : Rows.FnExactGivePageSaid := over
end Go.Proofs.Ytonhdiemjgdcnaa.fnExactGivePage
namespace Go.Proofs.Ytonhdiemjgdcnaa
theorem fnExactGivePage_holds : Rows.FnExactGivePageSaid := fnExactGivePage.proved
end Go.Proofs.Ytonhdiemjgdcnaa
