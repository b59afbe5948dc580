/- The closed facts of this seat's program that are the same for every row: its head's words, cut at their blanks. -/
import Derived.Test.YtdnnkfiocoakkaaRows
import Derived.WalkKit
import Derived.ProofKit
import Derived.KernelRfl
namespace Go.Proofs.Ytdnnkfiocoakkaa.Head
set_option maxRecDepth 100000
def w1 : List Char := [104, 97, 114, 110, 101, 115, 115].map Char.ofNat
def w2 : List Char := [102, 102, 57, 102, 55, 49, 57, 102, 48, 102, 48, 48, 56, 102, 100, 52, 52, 99, 57, 101, 102, 49, 56, 56, 97, 54, 56, 50, 49, 50, 49, 99, 52, 50, 50, 98, 48, 97, 48, 100, 51, 52, 54, 98, 54, 50, 50, 51, 52, 55, 49, 52, 55, 57, 50, 99, 54, 49, 55, 100, 50, 56, 102, 54].map Char.ofNat
def w3 : List Char := [99, 117, 116].map Char.ofNat
def w4 : List Char := [97, 116, 32, 108, 111, 111, 112, 46, 101, 120, 97, 109, 112, 108, 101, 47, 103, 48, 48, 50, 52, 48, 47, 108, 97, 119, 115, 46, 70, 110, 69, 120, 97, 99, 116, 83, 99, 104, 101, 109, 97, 75, 101, 121, 32, 108, 111, 111, 112, 46, 101, 120, 97, 109, 112, 108, 101, 47, 103, 48, 48, 50, 52, 48, 47, 108, 97, 119, 115, 46, 70, 110, 69, 120, 97, 99, 116, 84, 104, 105, 110, 103, 75, 101, 121, 32, 108, 111, 111, 112, 46, 101, 120, 97, 109, 112, 108, 101, 47, 103, 48, 48, 50, 52, 48, 47, 108, 97, 119, 115, 46, 70, 110, 69, 120, 97, 99, 116, 73, 110, 100, 101, 120, 75, 101, 121, 32, 108, 111, 111, 112, 46, 101, 120, 97, 109, 112, 108, 101, 47, 103, 48, 48, 50, 52, 48, 47, 108, 97, 119, 115, 46, 70, 110, 69, 120, 97, 99, 116, 78, 97, 109, 101, 75, 101, 121, 32, 108, 111, 111, 112, 46, 101, 120, 97, 109, 112, 108, 101, 47, 103, 48, 48, 50, 52, 48, 47, 108, 97, 119, 115, 46, 70, 110, 69, 120, 97, 99, 116, 67, 111, 108, 108, 79, 107, 32, 108, 111, 111, 112, 46, 101, 120, 97, 109, 112, 108, 101, 47, 103, 48, 48, 50, 52, 48, 47, 108, 97, 119, 115, 46, 70, 110, 69, 120, 97, 99, 116, 70, 111, 114, 109, 97, 116, 32, 108, 111, 111, 112, 46, 101, 120, 97, 109, 112, 108, 101, 47, 103, 48, 48, 50, 52, 48, 47, 108, 97, 119, 115, 46, 70, 110, 69, 120, 97, 99, 116, 71, 105, 118, 101, 80, 97, 103, 101, 32, 108, 111, 111, 112, 46, 101, 120, 97, 109, 112, 108, 101, 47, 103, 48, 48, 50, 52, 48, 47, 108, 97, 119, 115, 46, 70, 110, 69, 120, 97, 99, 116, 79, 108, 100, 101, 115, 116, 79, 102, 32, 108, 111, 111, 112, 46, 101, 120, 97, 109, 112, 108, 101, 47, 103, 48, 48, 50, 52, 48, 47, 108, 97, 119, 115, 46, 70, 110, 77, 101, 116, 97, 115, 32, 108, 111, 111, 112, 46, 101, 120, 97, 109, 112, 108, 101, 47, 103, 48, 48, 50, 52, 48, 47, 108, 97, 119, 115, 46, 70, 110, 78, 111, 100, 101, 115, 32, 108, 111, 111, 112, 46, 101, 120, 97, 109, 112, 108, 101, 47, 103, 48, 48, 50, 52, 48, 47, 108, 97, 119, 115, 46, 70, 110, 69, 120, 97, 99, 116, 84, 114, 101, 101, 79, 107, 32, 108, 111, 111, 112, 46, 101, 120, 97, 109, 112, 108, 101, 47, 103, 48, 48, 50, 52, 48, 47, 108, 97, 119, 115, 46, 70, 110, 69, 120, 97, 99, 116, 65, 108, 108, 80, 97, 105, 114, 115, 32, 108, 111, 111, 112, 46, 101, 120, 97, 109, 112, 108, 101, 47, 103, 48, 48, 50, 52, 48, 47, 108, 97, 119, 115, 46, 70, 110, 69, 120, 97, 99, 116, 80, 97, 105, 114, 115, 70, 114, 111, 109, 32, 108, 111, 111, 112, 46, 101, 120, 97, 109, 112, 108, 101, 47, 103, 48, 48, 50, 52, 48, 47, 108, 97, 119, 115, 46, 70, 110, 69, 120, 97, 99, 116, 80, 117, 116, 78, 111, 100, 101, 32, 108, 111, 111, 112, 46, 101, 120, 97, 109, 112, 108, 101, 47, 103, 48, 48, 50, 52, 48, 47, 108, 97, 119, 115, 46, 70, 110, 69, 120, 97, 99, 116, 69, 110, 100, 82, 101, 97, 100, 32, 108, 111, 111, 112, 46, 101, 120, 97, 109, 112, 108, 101, 47, 103, 48, 48, 50, 52, 48, 47, 108, 97, 119, 115, 46, 70, 110, 69, 120, 97, 99, 116, 83, 116, 111, 112, 87, 114, 105, 116, 101, 32, 108, 111, 111, 112, 46, 101, 120, 97, 109, 112, 108, 101, 47, 103, 48, 48, 50, 52, 48, 47, 108, 97, 119, 115, 46, 70, 110, 69, 120, 97, 99, 116, 79, 112, 101, 110, 32, 108, 111, 111, 112, 46, 101, 120, 97, 109, 112, 108, 101, 47, 103, 48, 48, 50, 52, 48, 47, 108, 97, 119, 115, 46, 70, 110, 69, 120, 97, 99, 116, 80, 97, 103, 101, 115, 79, 102, 32, 108, 111, 111, 112, 46, 101, 120, 97, 109, 112, 108, 101, 47, 103, 48, 48, 50, 52, 48, 47, 108, 97, 119, 115, 46, 70, 110, 69, 120, 97, 99, 116, 78, 101, 120, 116, 77, 101, 116, 97, 32, 108, 111, 111, 112, 46, 101, 120, 97, 109, 112, 108, 101, 47, 103, 48, 48, 50, 52, 48, 47, 108, 97, 119, 115, 46, 70, 110, 69, 120, 97, 99, 116, 80, 97, 103, 101, 115, 82, 105, 103, 104, 116].map Char.ofNat
def blank : Char := Char.ofNat 32
theorem cut_at (a r : List Char) (h : a.all (· != blank) = true) : wordsSigns (a ++ blank :: r) = a :: wordsSigns r := by
  induction a with
  | nil => rfl
  | cons c a ih =>
    simp only [List.all_cons, Bool.and_eq_true, bne_iff_ne] at h
    have e := ih h.2
    have hc : ∀ s, wordsSigns (c :: s) = match wordsSigns s with | w :: ws => (c :: w) :: ws | [] => [[c]] := by
      intro s
      conv => lhs; unfold wordsSigns
      split
      · rename_i h0; cases h0
      · rename_i h0
        injection h0 with h1 h2
        exact absurd h1 h.1
      · rename_i h0 _ h1
        injection h1 with h2 h3
        subst h2
        subst h3
        rfl
    show wordsSigns (c :: (a ++ blank :: r)) = _
    rw [hc, e]
theorem io : Try.prog.initOrder = String.ofList (w1 ++ blank :: (w2 ++ blank :: (w3 ++ blank :: w4))) := by kernel_rfl
theorem words : wordsSigns Try.prog.initOrder.toList = w1 :: w2 :: w3 :: wordsSigns w4 := by
  rw [io, String.toList_ofList, cut_at _ _ (by kernel_rfl), cut_at _ _ (by kernel_rfl), cut_at _ _ (by kernel_rfl)]
theorem m0 : ((w1 == "harness".toList || w1 == "ownmain".toList) && isSumSigns w2) = true := by kernel_rfl
theorem m0a : (w1 == "harness".toList) = true := by kernel_rfl
theorem m0b : isSumSigns w2 = true := by kernel_rfl
theorem m1 : (w3 == "gc".toList) = false := by kernel_rfl
theorem m2 : (w3 == "spec".toList) = false := by kernel_rfl
theorem m3 : (w3 == "cut".toList) = true := by kernel_rfl
theorem m4 : (w3 == "carried".toList) = false := by kernel_rfl
theorem m5 (R : List (List Char)) : ((w3 :: R).head? == some "cut".toList) = true := by kernel_rfl
theorem m5c (R : List (List Char)) : ((w3 :: R).head? == some "carried".toList) = false := by kernel_rfl
theorem m6 (R : List (List Char)) : stripLifts liftWords (w3 :: R) = ([], w3 :: R) := by kernel_rfl
theorem m7 : Try.prog.laysLater = false := by kernel_rfl
theorem m8 : Try.prog.bearsReflect = false := by kernel_rfl
theorem m9 : Try.prog.doorFits [] = true := by kernel_rfl
theorem behind (R : List (List Char)) : behindMainWord (w1 :: w2 :: R) = R := by
  show (if ((w1 == "harness".toList || w1 == "ownmain".toList) && isSumSigns w2) = true then R else w1 :: w2 :: R) = R
  rw [if_pos m0]
theorem beh : ∃ R, behindMainWord (wordsSigns Try.prog.initOrder.toList) = w3 :: R := ⟨wordsSigns w4, by rw [words, behind]⟩
theorem lifts_of (P : Program) (R : List (List Char)) (h : behindMainWord (wordsSigns P.initOrder.toList) = w3 :: R) : (false == P.liftsFinal) = true := by
  unfold Program.liftsFinal Program.headLifts
  rw [h]
  simp only [m5, m5c, m6]
  rfl
theorem may_of (P : Program) (R : List (List Char)) (h : behindMainWord (wordsSigns P.initOrder.toList) = w3 :: R) (h7 : P.laysLater = false) (h8 : P.bearsReflect = false) (h9 : P.doorFits [] = true) : P.mayEnter = true := by
  unfold Program.mayEnter
  rw [h]
  simp only [m1, m2, m4, m5, m6, h7, h8, h9]
  rfl
theorem made_of (P : Program) (R : List (List Char)) (h : behindMainWord (wordsSigns P.initOrder.toList) = w3 :: R) : (P.make == some Make.cut) = true := by
  unfold Program.make Program.headLifts
  rw [h]
  simp only [m1, m2, m3]
  rfl
theorem sum_of (P : Program) (R : List (List Char)) (h : wordsSigns P.initOrder.toList = w1 :: w2 :: R) : P.mainIs = some (true, w2) := by
  unfold Program.mainIs
  rw [h]
  simp only [m0a, m0b]
  rfl
theorem lifts : (false == Try.prog.liftsFinal) = true := by
  obtain ⟨R, h⟩ := beh
  exact lifts_of _ R h
theorem may : Try.prog.mayEnter = true := by
  obtain ⟨R, h⟩ := beh
  exact may_of _ R h m7 m8 m9
theorem made : (Try.prog.make == some Make.cut) = true := by
  obtain ⟨R, h⟩ := beh
  exact made_of _ R h
theorem laid : laidOutB Try.prog = true := by kernel_rfl
theorem maps : mapsRowed Try.prog = true := by kernel_rfl
theorem heard : Try.prog.stopsHeard = true := by kernel_rfl
theorem plain : (true == Try.prog.plainKeys) = true := by kernel_rfl
theorem sumIs : Try.prog.mainIs = some (true, w2) := sum_of _ _ words
end Go.Proofs.Ytdnnkfiocoakkaa.Head
