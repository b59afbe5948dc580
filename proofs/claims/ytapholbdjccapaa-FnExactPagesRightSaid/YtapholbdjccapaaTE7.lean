import Derived.Test.YtapholbdjccapaaTE6
set_option maxHeartbeats 64000000
set_option maxRecDepth 100000
set_option linter.unusedVariables false
set_option linter.unusedSimpArgs false
namespace Go.Proofs.Ytapholbdjccapaa.PFnExactTreeOk
open Go.RowKit Go.Proofs.YtapholbdjccapaaW.PrintWords Go.Proofs.YtapholbdjccapaaW.PrintLast Go.Proofs.YtapholbdjccapaaW.PrintMore
attribute [local go_sem] max2_int min2_int max_two min_two max_three min_three max_four min_four
def rshort (s : ByteArray) (at_ : Int) : ByteArray × Int × Bool :=
 if (rvar s at_).2.2 = true ∧ (rvar s at_).1 ≤ 20000 ∧ (rvar s at_).1 ≤ (s.size : Int) - (rvar s at_).2.1 then (s.extract (rvar s at_).2.1.toNat ((rvar s at_).2.1 + (rvar s at_).1).toNat, (rvar s at_).2.1 + (rvar s at_).1, true) else (⟨#[]⟩, 0, false)
theorem rshort_all (s : ByteArray) (hs : s.size ≤ 140737488351232) (at_ : Int) :
  impl_ReadShort.f 20 s at_ = some (rshort s at_) ∧ spec_ReadShort.f 20 s at_ = some (rshort s at_) ∧ (rshort s at_ = (⟨#[]⟩, 0, false) ∨ ∃ a n next : Nat, at_ = (a : Int) ∧ rshort s at_ = (s.extract next (next + n), ((next + n : Nat) : Int), true) ∧ n ≤ 20000 ∧ a < next ∧ next + n ≤ s.size ∧ bytes s a next = enc n) := by
 obtain ⟨_, h2, h3, h4⟩ := rvar_all s hs at_
 unfold impl_ReadShort.f spec_ReadShort.f
 rw [h2, h3]
 simp only [Option.bind_some]
 unfold rshort
 rcases h4 with h4 | ⟨a, n, next, rfl, h4, h5, h6, h7, h8⟩
 ·rw [h4]
  exact ⟨rfl, rfl, .inl rfl⟩
 ·rw [h4]
  have e1 : wrap64 ((s.size : Int) - (next : Int)) = (s.size : Int) - (next : Int) := by rw [w64 (by omega) (by omega)]
  simp only [e1, if_true]
  by_cases c1 : (n : Int) > 20000
  ·simp only [c1, if_true]
   rw [if_neg (by omega)]
   exact ⟨rfl, rfl, .inl rfl⟩
  ·by_cases c2 : (n : Int) > (s.size : Int) - (next : Int)
   ·simp only [c1, c2, if_true, if_false]
    rw [if_neg (by omega)]
    exact ⟨rfl, rfl, .inl rfl⟩
   ·have e2 : wrap64 ((next : Int) + (n : Int)) = (next : Int) + (n : Int) := by rw [w64 (by omega) (by omega)]
    have c3 : (0 : Int) ≤ (next : Int) := by omega
    have c4 : (next : Int) ≤ (next : Int) + (n : Int) := by omega
    have c5 : (next : Int) + (n : Int) ≤ (s.size : Int) := by omega
    simp only [c1, c2, e2, c3, c4, c5, if_true, if_false]
    rw [if_pos (by refine ⟨trivial, ?_, ?_⟩ <;> omega)]
    refine ⟨rfl, rfl, .inr ⟨a, n, next, rfl, ?_, by omega, h6, by omega, h8⟩⟩
    have e3 : ((next : Int) + (n : Int)).toNat = next + n := by omega
    have e4 : (next : Int) + (n : Int) = ((next + n : Nat) : Int) := by omega
    rw [e3, Int.toNat_natCast, e4]
def rNum (s : ByteArray) (at_ : Int) (bad : Bool) (most : Int) : Int × Int × Bool :=
 if bad = false ∧ (rvar s at_).2.2 = true ∧ (rvar s at_).1 ≤ most then ((rvar s at_).1, (rvar s at_).2.1, false) else (0, at_, true)
def rText (s : ByteArray) (at_ : Int) (bad : Bool) : ByteArray × Int × Bool :=
 if bad = false ∧ (rshort s at_).2.2 = true then ((rshort s at_).1, (rshort s at_).2.1, false) else (⟨#[]⟩, at_, true)
theorem num_f (s : ByteArray) (hs : s.size ≤ 140737488351232) (at_ : Int) (bad : Bool) (most : Int) : impl_reader_num.f 20 s at_ bad most = some ((rNum s at_ bad most).1, s, (rNum s at_ bad most).2.1, (rNum s at_ bad most).2.2) := by
 obtain ⟨_, h2, h3, h4⟩ := rvar_all s hs at_
 unfold impl_reader_num.f rNum
 rw [h3]
 simp only [Option.bind_some]
 cases bad
 ·by_cases c1 : (rvar s at_).2.2 = true
  ·by_cases c2 : (rvar s at_).1 > most
   ·rw [if_neg (by simp), if_pos c1, if_pos c2, if_neg (by omega)]
   ·rw [if_neg (by simp), if_pos c1, if_neg c2, if_pos ⟨rfl, c1, by omega⟩]
  ·rw [if_neg (by simp), if_neg c1, if_neg (by simp [c1])]
 ·rfl
theorem text_f (s : ByteArray) (hs : s.size ≤ 140737488351232) (at_ : Int) (bad : Bool) : impl_reader_text.f 20 s at_ bad = some ((rText s at_ bad).1, s, (rText s at_ bad).2.1, (rText s at_ bad).2.2) := by
 obtain ⟨h1, h2, h4⟩ := rshort_all s hs at_
 unfold impl_reader_text.f rText
 rw [h1]
 simp only [Option.bind_some]
 cases bad
 ·by_cases c1 : (rshort s at_).2.2 = true
  ·rw [if_neg (by simp), if_pos c1, if_pos ⟨rfl, c1⟩]
  ·rw [if_neg (by simp), if_neg c1, if_neg (by simp [c1])]
 ·rfl
structure Reads (t fnum ftext : Nat) (numArgs : Int → Array Value) (cap : Int → Int) : Prop where
 num : ∀ (s : ByteArray) (at_ : Int) (bad : Bool) (most : Int) (g : Nat) (w0 w : World), s.size ≤ 140737488351232 → w.heap[g]? = some (.cells #[.string s, .int .i64 at_, .bool bad] t (0, 0)) → w0.heap.size ≤ g → Below w0.heap.size w0 w →
  Calls Try.prog fnum (#[.pointer (some ⟨g, 0, none⟩)] ++ numArgs most) w (RdPost w0 w g t (.int .i64 (rNum s at_ bad (cap most)).1) s (rNum s at_ bad (cap most)).2.1 (rNum s at_ bad (cap most)).2.2)
 text : ∀ (s : ByteArray) (at_ : Int) (bad : Bool) (g : Nat) (w0 w : World), s.size ≤ 140737488351232 → w.heap[g]? = some (.cells #[.string s, .int .i64 at_, .bool bad] t (0, 0)) → w0.heap.size ≤ g → Below w0.heap.size w0 w →
  Calls Try.prog ftext #[.pointer (some ⟨g, 0, none⟩)] w (RdPost w0 w g t (.string (rText s at_ bad).1) s (rText s at_ bad).2.1 (rText s at_ bad).2.2)
theorem impl_reads : Reads 114 70 88 (fun most => #[.int .i64 most]) id where
 num s at_ bad most g w0 w hs hI hg hB := (impl_reader_num.calls 20 g s at_ bad most _ _ _ _ w0 w ⟨hI, hg⟩ hB (num_f s hs at_ bad most)).mono fun e w' ⟨h1, h2, h3, h4⟩ => ⟨h1, h2.1, h3, h4⟩
 text s at_ bad g w0 w hs hI hg hB := (impl_reader_text.calls 20 g s at_ bad _ _ _ _ w0 w ⟨hI, hg⟩ hB (text_f s hs at_ bad)).mono fun e w' ⟨h1, h2, h3, h4⟩ => ⟨h1, h2.1, h3, h4⟩
theorem spec_reads : Reads 123 82 93 (fun _ => #[]) (fun _ => 1000000000) where
 num s at_ bad most g w0 w hs hI hg hB := by
  obtain ⟨_, h2, h3, h4⟩ := rvar_all s hs at_
  cases bad with
  | true => exact l04Var_bad 20 g s at_ _ _ _ w0 w hI hg hB h2
  | false =>
   rcases h4 with h4 | ⟨a, n, next, _, h4, h5, h6, h7, h8⟩
   ·have h9 : rNum s at_ false 1000000000 = (0, at_, true) := by unfold rNum; rw [h4]; rfl
    rw [h9]
    rw [h4] at h2
    exact l04Var_not 20 g s at_ _ _ w0 w hI hg hB h2
   ·have h9 : rNum s at_ false 1000000000 = ((n : Int), (next : Int), false) := by unfold rNum; rw [h4, if_pos ⟨rfl, rfl, by show (n : Int) ≤ 1000000000; omega⟩]
    rw [h9]
    rw [h4] at h2
    exact l04Var_good 20 g s at_ _ _ w0 w hI hg hB h2
 text s at_ bad g w0 w hs hI hg hB := by
  obtain ⟨_, h2, h4⟩ := rshort_all s hs at_
  cases bad with
  | true => exact l04ReadShort_bad 20 g s at_ _ _ _ w0 w hI hg hB h2
  | false =>
   rcases h4 with h4 | ⟨a, n, next, _, h4, h5, h6, h7, h8⟩
   ·have h9 : rText s at_ false = (⟨#[]⟩, at_, true) := by unfold rText; rw [h4]; rfl
    rw [h9]
    rw [h4] at h2
    exact l04ReadShort_not 20 g s at_ _ _ w0 w hI hg hB h2
   ·have h9 : rText s at_ false = (s.extract next (next + n), ((next + n : Nat) : Int), false) := by unfold rText; rw [h4, if_pos ⟨rfl, rfl⟩]
    rw [h9]
    rw [h4] at h2
    exact l04ReadShort_good 20 g s at_ _ _ w0 w hI hg hB h2
structure NSt where
 at_ : Int
 bad : Bool
 keys : List ByteArray
 vals : List ByteArray
 kids : List Int
def nStep (leaf : Bool) (s : ByteArray) (most : Int) (st : NSt) : NSt :=
 if leaf = true then ⟨(rText s (rText s st.at_ st.bad).2.1 (rText s st.at_ st.bad).2.2).2.1, (rText s (rText s st.at_ st.bad).2.1 (rText s st.at_ st.bad).2.2).2.2, st.keys ++ [(rText s st.at_ st.bad).1], st.vals ++ [(rText s (rText s st.at_ st.bad).2.1 (rText s st.at_ st.bad).2.2).1], st.kids⟩
 else ⟨(rNum s (rText s st.at_ st.bad).2.1 (rText s st.at_ st.bad).2.2 most).2.1, (rNum s (rText s st.at_ st.bad).2.1 (rText s st.at_ st.bad).2.2 most).2.2, st.keys ++ [(rText s st.at_ st.bad).1], st.vals, st.kids ++ [(rNum s (rText s st.at_ st.bad).2.1 (rText s st.at_ st.bad).2.2 most).1]⟩
def nIter (leaf : Bool) (s : ByteArray) (most : Int) (st : NSt) : Nat → NSt
 | 0 => st
 | n + 1 => nStep leaf s most (nIter leaf s most st n)
structure NInv (w0 W : World) (gN gR t : Nat) (s : ByteArray) (leaf : Bool) (vk vv vi : Value) (at_ : Int) (bad : Bool) (keys vals : List ByteArray) (kids : List Int) : Prop where
 bN : W.heap[gN]? = some (.cells #[.bool leaf, vk, vv, vi] 68 (0, 0))
 bR : W.heap[gR]? = some (.cells #[.string s, .int .i64 at_, .bool bad] t (0, 0))
 hN : w0.heap.size ≤ gN
 hR : w0.heap.size ≤ gR
 rk : Kd.R Kd.string 9 W w0.heap.size (fun _ => True) vk keys
 rv : Kd.R Kd.string 9 W w0.heap.size (fun _ => True) vv vals
 ri : Kd.R (Kd.int .i64) 3 W w0.heap.size (fun _ => True) vi kids
 ne : NeRow vk vv
 bel : Below w0.heap.size w0 W
section
variable {w0 W W' W1 : World} {gN gR t : Nat} {s : ByteArray} {leaf : Bool} {vk vv vi v1 : Value} {at_ at' : Int} {bad bad' : Bool} {keys vals : List ByteArray} {kids : List Int}
theorem NInv.below (h : NInv w0 W gN gR t s leaf vk vv vi at_ bad keys vals kids) (hb : Below W.heap.size W W') : NInv w0 W' gN gR t s leaf vk vv vi at_ bad keys vals kids :=
 ⟨blk_below h.bN hb, blk_below h.bR hb, h.hN, h.hR, Kd.R_below h.rk hb, Kd.R_below h.rv hb, Kd.R_below h.ri hb, h.ne, h.bel.trans (hb.mono h.bel.size)⟩
theorem NInv.alloc (h : NInv w0 W gN gR t s leaf vk vv vi at_ bad keys vals kids) (o : Obj) : NInv w0 (W.alloc o) gN gR t s leaf vk vv vi at_ bad keys vals kids := h.below (below_alloc (Below.refl _ _) _)
theorem NInv.drew (h : NInv w0 W gN gR t s leaf vk vv vi at_ bad keys vals kids) : NInv w0 W.drew gN gR t s leaf vk vv vi at_ bad keys vals kids := h.below (Below.refl _ _).drew
theorem NInv.neNR (h : NInv w0 W gN gR t s leaf vk vv vi at_ bad keys vals kids) (ht : t ≠ 68) : gN ≠ gR := blk_ne h.bN h.bR (Ne.symm ht)
theorem NInv.read (h : NInv w0 W gN gR t s leaf vk vv vi at_ bad keys vals kids) (h9 : t ≠ 9) (h3 : t ≠ 3) (h68 : t ≠ 68) (hb : W'.heap[gR]? = some (.cells #[.string s, .int .i64 at', .bool bad'] t (0, 0))) (hbel : Below w0.heap.size w0 W') (hk : KeepBut W W' gR none) :
  NInv w0 W' gN gR t s leaf vk vv vi at' bad' keys vals kids :=
 ⟨KeepBut.blk hk h.bN (h.neNR h68) (by simp), hb, h.hN, h.hR,
  Kd.R_mono (Kd.R_keep (Kd.R_types h.rk h.bR (fun q hq => by simp [Kd.string, Kd.scalar] at hq; subst hq; exact Ne.symm h9)) hk (fun _ h => h.2)) (fun _ _ => trivial),
  Kd.R_mono (Kd.R_keep (Kd.R_types h.rv h.bR (fun q hq => by simp [Kd.string, Kd.scalar] at hq; subst hq; exact Ne.symm h9)) hk (fun _ h => h.2)) (fun _ _ => trivial),
  Kd.R_mono (Kd.R_keep (Kd.R_types h.ri h.bR (fun q hq => by simp [Kd.int, Kd.scalar] at hq; subst hq; exact Ne.symm h3)) hk (fun _ h => h.2)) (fun _ _ => trivial),
  h.ne, hbel⟩
theorem ne_new {W : World} {v v1 u : Value} {α : Type} {d : Kd α} {e base : Nat} {ok : Nat → Prop} {xs : List α} (hu : Kd.R d e W base ok u xs) (h : NeRow v u) (hat : v1.ownBlock = v.ownBlock ∨ ∃ b, v1.ownBlock = some b ∧ W.heap.size ≤ b) : NeRow v1 u := by
 intro k hk hu'
 rcases hat with hat | ⟨b, hb, hsz⟩
 ·exact h k (hat ▸ hk) hu'
 ·obtain ⟨inner, ho⟩ := Kd.R_own hu
  have := own_lt ho k hu'
  rw [hb] at hk
  injection hk with hk
  omega
theorem nerow_symm {v u : Value} (h : NeRow v u) : NeRow u v := fun k hk hu => h k hu hk
theorem R_other {W W1 : World} {base : Nat} {v u : Value} {α : Type} {f : α → Value} {h1 : ∀ x, (f x).oneCell' = true} {e : Nat} {xs : List α} (hu : Kd.R (Kd.scalar f h1) e W base (fun _ => True) u xs) (h : NeRow v u) (hg : W.grownBy W1 v.ownBlock) : Kd.R (Kd.scalar f h1) e W1 base (fun _ => True) u xs :=
 Kd.R_mono (Kd.R_grown (ok := fun k => some k ≠ v.ownBlock) (⟨fun k hk he => h k he.symm hk, hu.2⟩) hg (fun _ hk => hk)) (fun _ _ => trivial)
theorem NInv.pushKey (h : NInv w0 W gN gR t s leaf vk vv vi at_ bad keys vals kids) (h9 : t ≠ 9) (h68 : t ≠ 68) {xs : List ByteArray} (hr : Kd.R Kd.string 9 W1 w0.heap.size (fun _ => True) v1 xs) (hb : Below w0.heap.size w0 W1) (hg : W.grownBy W1 vk.ownBlock)
  (hat : v1.ownBlock = vk.ownBlock ∨ ∃ b, v1.ownBlock = some b ∧ W.heap.size ≤ b) : NInv w0 (W1.setCell ⟨gN, 1, none⟩ v1) gN gR t s leaf v1 vv vi at_ bad xs vals kids := by
 have b1 := blk_grown h.bN hg (Kd.R_ne h.rk h.bN (by decide))
 have b2 := blk_grown h.bR hg (Kd.R_ne h.rk h.bR (Ne.symm h9))
 exact ⟨blk_put b1 1 v1 rfl, blk_far b2 (h.neNR h68).symm _, h.hN, h.hR, Kd.R_set hr b1 (by decide) 1 v1, Kd.R_set (R_other h.rv h.ne hg) b1 (by decide) 1 v1,
  Kd.R_set (Kd.R_over' h.ri (Kd.R_typed h.rk) (by decide) hg) b1 (by decide) 1 v1, ne_new h.rv h.ne hat, below_set hb h.hN⟩
theorem NInv.pushVal (h : NInv w0 W gN gR t s leaf vk vv vi at_ bad keys vals kids) (h9 : t ≠ 9) (h68 : t ≠ 68) {xs : List ByteArray} (hr : Kd.R Kd.string 9 W1 w0.heap.size (fun _ => True) v1 xs) (hb : Below w0.heap.size w0 W1) (hg : W.grownBy W1 vv.ownBlock)
  (hat : v1.ownBlock = vv.ownBlock ∨ ∃ b, v1.ownBlock = some b ∧ W.heap.size ≤ b) : NInv w0 (W1.setCell ⟨gN, 2, none⟩ v1) gN gR t s leaf vk v1 vi at_ bad keys xs kids := by
 have b1 := blk_grown h.bN hg (Kd.R_ne h.rv h.bN (by decide))
 have b2 := blk_grown h.bR hg (Kd.R_ne h.rv h.bR (Ne.symm h9))
 exact ⟨blk_put b1 2 v1 rfl, blk_far b2 (h.neNR h68).symm _, h.hN, h.hR, Kd.R_set (R_other h.rk (nerow_symm h.ne) hg) b1 (by decide) 2 v1, Kd.R_set hr b1 (by decide) 2 v1,
  Kd.R_set (Kd.R_over' h.ri (Kd.R_typed h.rv) (by decide) hg) b1 (by decide) 2 v1, nerow_symm (ne_new h.rk (nerow_symm h.ne) hat), below_set hb h.hN⟩
theorem NInv.pushKid (h : NInv w0 W gN gR t s leaf vk vv vi at_ bad keys vals kids) (h3 : t ≠ 3) (h68 : t ≠ 68) {xs : List Int} (hr : Kd.R (Kd.int .i64) 3 W1 w0.heap.size (fun _ => True) v1 xs) (hb : Below w0.heap.size w0 W1) (hg : W.grownBy W1 vi.ownBlock) :
  NInv w0 (W1.setCell ⟨gN, 3, none⟩ v1) gN gR t s leaf vk vv v1 at_ bad keys vals xs := by
 have b1 := blk_grown h.bN hg (Kd.R_ne h.ri h.bN (by decide))
 have b2 := blk_grown h.bR hg (Kd.R_ne h.ri h.bR (Ne.symm h3))
 exact ⟨blk_put b1 3 v1 rfl, blk_far b2 (h.neNR h68).symm _, h.hN, h.hR, Kd.R_set (Kd.R_over' h.rk (Kd.R_typed h.ri) (by decide) hg) b1 (by decide) 3 v1, Kd.R_set (Kd.R_over' h.rv (Kd.R_typed h.ri) (by decide) hg) b1 (by decide) 3 v1,
  Kd.R_set hr b1 (by decide) 3 v1, h.ne, below_set hb h.hN⟩
end
end Go.Proofs.Ytapholbdjccapaa.PFnExactTreeOk
namespace Go.Proofs.YtapholbdjccapaaW.PrintLast
open Go.Proofs.YtapholbdjccapaaW.PrintWords (Aside0)
inductive Stp where
 | p (i : Nat) | t (i : Nat) | e (i : Nat) | l (i : Nat)
section
variable {P : Program} {ops : Array Oper} {Q : Exit → Act → World → Prop} {S : World → Prop} {ds : List Nat} {T : Bool × List (List Nat × List Nat)} {B : List Nat} {N : Option Tmp} {o : Oper} {v : Value} {a : Act} {w : World} {i : Nat} {r : List Stp}
def walkB (T : Bool × List (List Nat × List Nat)) (B ds : List Nat) : Bool → List Bool → List Stp → Bool
 | _, l, [] => readyT T.2 l == []
 | k, l, .p i :: r => (T.1 && freeT T.2 l i && readyAt T.2 l i) && walkB T B ds k (l.set i true) r
 | k, l, .t i :: r => (k && takeW T B ds l (l.set i true) i) && walkB T B ds k (l.set i true) r
 | _, l, .e i :: r => (readyT T.2 l == [i] && !ds.contains i) && walkB T B ds true (l.set i true) r
 | _, l, .l i :: r => (readyT T.2 l == [i] && ds.contains i) && walkB T B ds false (l.set i true) r
def regB (ops : Array Oper) (T : Bool × List (List Nat × List Nat)) (B ds : List Nat) (r : List Stp) : Bool := rtab .any ops == T && waitsOk T.2 B && r.length == ops.size && walkB T B ds true (List.replicate ops.size false) r
theorem put_with (a : Act) (d : Option Tmp) (v : Value) : a.put d v = { a with tmps := (a.put d v).tmps } := by cases d <;> rfl
def wpSeq (P : Program) (ops : Array Oper) (Q : Exit → Act → World → Prop) (S : World → Prop) : List Stp → Act → World → Prop
 | [], a, w => Q .normal a w
 | .p i :: r, a, w => ∃ o v, ops[i]? = some o ∧ Yields P ops o v a ∧ wpSeq P ops Q S r (a.put o.dst v) w
 | .t i :: r, a, w => ∃ o v, ops[i]? = some o ∧ YieldsIf P ops S o v a ∧ wpSeq P ops Q S r (a.put o.dst v) w
 | .e i :: r, a, w => ∃ o, ops[i]? = some o ∧ ∀ K : Act → World → Prop, Shut (∀ a' w', S w' → (S w' → wpSeq P ops Q S r a' w') → K a' w') → if Region.wanted o (yielded ops a.tmps) = true then Oper.wp P o a w K Q else K (a.put o.dst undef) w
 | .l i :: r, a, w => ∃ o, ops[i]? = some o ∧ ∀ K : Act → World → Prop, Shut (∀ a' w', wpSeq P ops Q S r a' w' → K a' w') → if Region.wanted o (yielded ops a.tmps) = true then Oper.wp P o a w K Q else K (a.put o.dst undef) w
theorem wpSeq_sound (hT : rtab .any ops = T) (hB : waitsOk T.2 B = true) (hQ : ∀ c (a : Act) ts w, Q (.panic c) { a with tmps := ts } w → Q (.panic c) a w) : ∀ (r : List Stp) (k : Bool) (l : List Bool) (a : Act) (w : World),
  walkB T B ds k l r = true → (k = true → S w) → wpSeq P ops Q S r a w → wpAnyLast P .any ops Q S ds r.length l.toArray a w
 | [], k, l, a, w, hc, hS, h => ⟨by subst hT; rw [ready_eq]; simpa [walkB] using hc, h⟩
 | .p i :: r, k, l, a, w, hc, hS, h => by
  simp only [walkB, Bool.and_eq_true] at hc
  obtain ⟨⟨⟨h1, h2⟩, h3⟩, h4⟩ := hc
  obtain ⟨o, v, ho, hy, hr⟩ := h
  refine pure_ (l.set i true).toArray ho rfl (any_of hT ?_) (fun c a w hh => hQ c a (a.put o.dst v).tmps w (by rw [← put_with]; exact hh)) hy rfl (wpSeq_sound hT hB hQ r k _ _ w h4 hS hr)
  simp only [anyT, Bool.and_eq_true]
  exact ⟨⟨⟨h1, h2⟩, h3⟩, by simp⟩
 | .t i :: r, k, l, a, w, hc, hS, h => by
  simp only [walkB, Bool.and_eq_true] at hc
  obtain ⟨⟨h1, h2⟩, h4⟩ := hc
  obtain ⟨o, v, ho, hy, hr⟩ := h
  exact take_ (l.set i true).toArray ho rfl (take_ofW hT hB h2) (fun c a w hh => hQ c a (a.put o.dst v).tmps w (by rw [← put_with]; exact hh)) hy (hS h1) rfl (wpSeq_sound hT hB hQ r k _ _ w h4 hS hr)
 | .e i :: r, k, l, a, w, hc, hS, h => by
  simp only [walkB, Bool.and_eq_true] at hc
  obtain ⟨⟨h1, h2⟩, h4⟩ := hc
  obtain ⟨o, ho, hr⟩ := h
  refine one_ (l.set i true).toArray ho rfl (one_of hT ?_) (by simpa using h2) (fun K hK => hr K (fun a' w' hs hw => hK.out a' w' hs fun hs => wpSeq_sound hT hB hQ r true _ a' w' h4 (fun _ => hs) (hw hs)))
  simp only [Bool.and_eq_true]
  exact ⟨h1, by simp⟩
 | .l i :: r, k, l, a, w, hc, hS, h => by
  simp only [walkB, Bool.and_eq_true] at hc
  obtain ⟨⟨h1, h2⟩, h4⟩ := hc
  obtain ⟨o, ho, hr⟩ := h
  refine last_ (l.set i true).toArray ho rfl (one_of hT ?_) (by simpa using h2) (fun K hK => hr K (fun a' w' hw => hK.out a' w' (wpSeq_sound hT hB hQ r false _ a' w' h4 (fun h => by cases h) hw)))
  simp only [Bool.and_eq_true]
  exact ⟨h1, by simp⟩
theorem seq_start {id : Nat} (hc : regB ops T B ds r = true) (hm : P.follows .mixedOrders = true) (hQ : ∀ c (a : Act) ts w, Q (.panic c) { a with tmps := ts } w → Q (.panic c) a w) (hS : S w.drew) (h : S w.drew → wpSeq P ops Q S r a w.drew) : (Code.region id ops true).wp P Q a w := by
 simp only [regB, Bool.and_eq_true, beq_iff_eq] at hc
 obtain ⟨⟨⟨h1, h2⟩, h3⟩, h4⟩ := hc
 refine start_ (ds := ds) (List.replicate ops.size false).toArray hm rfl (by simp) hS (fun hs => ?_)
 rw [← h3]
 exact wpSeq_sound h1 h2 hQ r true _ a _ (by rw [h3]; exact h4) (fun _ => hs) (h hs)
theorem seq_p (ho : ops[i]? = some o) (hN : o.dst = N) (hy : Yields P ops o v a) {a' : Act} (ha : a.put N v = a') (h : wpSeq P ops Q S r a' w) : wpSeq P ops Q S (.p i :: r) a w := by
 subst hN; subst ha; exact ⟨o, v, ho, hy, h⟩
theorem seq_t (ho : ops[i]? = some o) (hN : o.dst = N) (hy : YieldsIf P ops S o v a) {a' : Act} (ha : a.put N v = a') (h : wpSeq P ops Q S r a' w) : wpSeq P ops Q S (.t i :: r) a w := by
 subst hN; subst ha; exact ⟨o, v, ho, hy, h⟩
theorem seq_e (ho : ops[i]? = some o) (hN : o.dst = N) (h : ∀ K : Act → World → Prop, Shut (∀ a' w', S w' → (S w' → wpSeq P ops Q S r a' w') → K a' w') → if Region.wanted o (yielded ops a.tmps) = true then Oper.wp P o a w K Q else K (a.put N undef) w) : wpSeq P ops Q S (.e i :: r) a w := by
 subst hN; exact ⟨o, ho, h⟩
theorem seq_l (ho : ops[i]? = some o) (hN : o.dst = N) (h : ∀ K : Act → World → Prop, Shut (∀ a' w', wpSeq P ops Q S r a' w' → K a' w') → if Region.wanted o (yielded ops a.tmps) = true then Oper.wp P o a w K Q else K (a.put N undef) w) : wpSeq P ops Q S (.l i :: r) a w := by
 subst hN; exact ⟨o, ho, h⟩
theorem seq_done (h : Q .normal a w) : wpSeq P ops Q S [] a w := h
theorem seq_norm {a' : Act} (ha : a = a') (h : wpSeq P ops Q S r a' w) : wpSeq P ops Q S r a w := by subst ha; exact h
theorem seq_call {f : FuncId} {fn : Func} {aa : Array Operand} {ts : Array TypeId} (ho : ops[i]? = some o) (hN : o.dst = N) (hf : P.funcs[f]? = some fn) (hname : (fn.name == "runtime.NumGoroutine") = false) (hb : fn.body.isSome = true) (args : Array Value)
  (hw : Region.wanted o (yielded ops a.tmps) = true) (hop : o.op = .call { callee := .value (.func f), args := aa, argTypes := ts }) (hargs : aa.map a.eval = args)
  (h : Calls P f args w fun e w' => ∃ v, e = .returned v ∧ S w' ∧ (S w' → wpSeq P ops Q S r (a.put N v) w')) : wpSeq P ops Q S (.e i :: r) a w :=
 seq_e ho hN fun K hK => goes_ hf hname hb args hw hN hop hargs (h.mono fun e w' ⟨v, he, hs, hk⟩ => ⟨v, he, hK.out _ _ hs hk⟩)
theorem seq_callast {f : FuncId} {fn : Func} {aa : Array Operand} {ts : Array TypeId} (ho : ops[i]? = some o) (hN : o.dst = N) (hf : P.funcs[f]? = some fn) (hname : (fn.name == "runtime.NumGoroutine") = false) (hb : fn.body.isSome = true) (args : Array Value)
  (hw : Region.wanted o (yielded ops a.tmps) = true) (hop : o.op = .call { callee := .value (.func f), args := aa, argTypes := ts }) (hargs : aa.map a.eval = args)
  (h : Calls P f args w fun e w' => ∃ v, e = .returned v ∧ wpSeq P ops Q S r (a.put N v) w') : wpSeq P ops Q S (.l i :: r) a w :=
 seq_l ho hN fun K hK => goes_ hf hname hb args hw hN hop hargs (h.mono fun e w' ⟨v, he, hk⟩ => ⟨v, he, hK.out _ _ hk⟩)
end
end Go.Proofs.YtapholbdjccapaaW.PrintLast
namespace Go.Proofs.Ytapholbdjccapaa.PFnExactTreeOk
open Go.RowKit Go.Proofs.YtapholbdjccapaaW.PrintWords Go.Proofs.YtapholbdjccapaaW.PrintLast Go.Proofs.YtapholbdjccapaaW.PrintMore
attribute [local go_sem] max2_int min2_int max_two min_two max_three min_three max_four min_four
def NodePost (w : World) (n : S68) (ok : Bool) (e : Ending) (w' : World) : Prop :=
 ∃ A1 c1 A2 c2 A3 c3, e = .returned (.tuple #[.agg #[.bool n.f0, .slice A1 n.f1.length c1, .slice A2 n.f2.length c2, .slice A3 n.f3.length c3], .bool ok]) ∧
  Kd.R Kd.string 9 w' w.heap.size (fun _ => True) (.slice A1 n.f1.length c1) n.f1 ∧ Kd.R Kd.string 9 w' w.heap.size (fun _ => True) (.slice A2 n.f2.length c2) n.f2 ∧ Kd.R (Kd.int .i64) 3 w' w.heap.size (fun _ => True) (.slice A3 n.f3.length c3) n.f3 ∧ Below w.heap.size w w'
def impl_ReadNode.T8 : Bool × List (List Nat × List Nat) := (true, [([], []), ([0], [0]), ([], []), ([2], [2]), ([3], [3]), ([1, 4, 3], [1, 4]), ([0, 1, 2, 3, 4, 5], []), ([6, 5, 5, 0, 1, 2, 3, 4, 5], [5, 6])])
def impl_ReadNode.B8 : List Nat := [0, 1, 0, 4, 12, 31, 63, 127]
theorem impl_ReadNode.ok8_0 : regB (opsOf Try.f30 8) impl_ReadNode.T8 impl_ReadNode.B8 [7] [.p 0, .p 2, .t 1, .e 3, .e 4, .e 5, .p 6, .l 7] = true := by kernel_rfl
def impl_ReadNode.T10 : Bool × List (List Nat × List Nat) := (true, [([], []), ([0], [0]), ([], []), ([2], [2]), ([3], [3]), ([1, 4, 3], [1, 4]), ([0, 1, 2, 3, 4, 5], []), ([6, 5, 5, 0, 1, 2, 3, 4, 5], [5, 6])])
def impl_ReadNode.B10 : List Nat := [0, 1, 0, 4, 12, 31, 63, 127]
theorem impl_ReadNode.ok10_1 : regB (opsOf Try.f30 10) impl_ReadNode.T10 impl_ReadNode.B10 [7] [.p 0, .p 2, .t 1, .e 3, .e 4, .e 5, .p 6, .l 7] = true := by kernel_rfl
def impl_ReadNode.T11 : Bool × List (List Nat × List Nat) := (true, [([], []), ([0], [0]), ([], []), ([2], [2]), ([3], [3]), ([1, 4, 3], [1, 4]), ([0, 1, 2, 3, 4, 5], []), ([6, 5, 5, 0, 1, 2, 3, 4, 5], [5, 6])])
def impl_ReadNode.B11 : List Nat := [0, 1, 0, 4, 12, 31, 63, 127]
theorem impl_ReadNode.ok11_2 : regB (opsOf Try.f30 11) impl_ReadNode.T11 impl_ReadNode.B11 [7] [.p 0, .p 2, .t 1, .e 3, .e 4, .e 5, .p 6, .l 7] = true := by kernel_rfl
theorem info3_ : (Try.prog.info? 3).map (fun i => (i.zero, i.size, i.bytes)) = some (some (.int .i64 0), 1, 8) := by kernel_rfl
theorem toList_ne (s : ByteArray) (h : 0 < s.size) : ¬ s.toList = [] ∧ s.toList.isEmpty = false := by
 have hl : s.toList.length = s.size := by rw [Lib.toList_data, Array.length_toList]; rfl
 cases hs : s.toList with
 | nil => rw [hs] at hl; simp only [List.length_nil] at hl; omega
 | cons a l => exact ⟨by simp, rfl⟩
theorem impl_num_rd {s : ByteArray} {at_ : Int} {bad : Bool} {most : Int} {g : Nat} {w0 w : World} {x a1 : Int} {b1 : Bool} (hr : rNum s at_ bad most = (x, a1, b1)) (hs : s.size ≤ 140737488351232) (hI : w.heap[g]? = some (.cells #[.string s, .int .i64 at_, .bool bad] 114 (0, 0))) (hg : w0.heap.size ≤ g) (hB : Below w0.heap.size w0 w) :
  Calls Try.prog 70 #[.pointer (some ⟨g, 0, none⟩), .int .i64 most] w (RdPost w0 w g 114 (.int .i64 x) s a1 b1) := by
 have h := impl_reads.num s at_ bad most g w0 w hs hI hg hB
 simp only [id, hr] at h
 exact h
theorem impl_text_rd {s : ByteArray} {at_ : Int} {bad : Bool} {g : Nat} {w0 w : World} {x : ByteArray} {a1 : Int} {b1 : Bool} (hr : rText s at_ bad = (x, a1, b1)) (hs : s.size ≤ 140737488351232) (hI : w.heap[g]? = some (.cells #[.string s, .int .i64 at_, .bool bad] 114 (0, 0))) (hg : w0.heap.size ≤ g) (hB : Below w0.heap.size w0 w) :
  Calls Try.prog 88 #[.pointer (some ⟨g, 0, none⟩)] w (RdPost w0 w g 114 (.string x) s a1 b1) := by
 have h := impl_reads.text s at_ bad g w0 w hs hI hg hB
 simp only [hr] at h
 exact h
theorem nIter_len (leaf : Bool) (s : ByteArray) (most : Int) (st : NSt) (h1 : st.keys = []) (h2 : st.vals = []) (h3 : st.kids = []) : ∀ n, (nIter leaf s most st n).keys.length = n ∧ (nIter leaf s most st n).vals.length ≤ n ∧ (nIter leaf s most st n).kids.length ≤ n
 | 0 => by simp [nIter, h1, h2, h3]
 | n + 1 => by
  have ih := nIter_len leaf s most st h1 h2 h3 n
  cases leaf <;> simp [nIter, nStep] <;> omega
theorem node_post {w w' : World} {n : S68} {ok : Bool} {A1 A2 A3 : Option Addr} {c1 c2 c3 : Nat} (h1 : Kd.R Kd.string 9 w' w.heap.size (fun _ => True) (.slice A1 n.f1.length c1) n.f1) (h2 : Kd.R Kd.string 9 w' w.heap.size (fun _ => True) (.slice A2 n.f2.length c2) n.f2) (h3 : Kd.R (Kd.int .i64) 3 w' w.heap.size (fun _ => True) (.slice A3 n.f3.length c3) n.f3) (hb : Below w.heap.size w w') :
  NodePost w n ok (.returned (.tuple #[.agg #[.bool n.f0, .slice A1 n.f1.length c1, .slice A2 n.f2.length c2, .slice A3 n.f3.length c3], .bool ok])) w' := ⟨A1, c1, A2, c2, A3, c3, rfl, h1, h2, h3, hb⟩
theorem base_below {w W : World} {o : Obj} (h : Below (w.alloc o).heap.size (w.alloc o) W) : Below w.heap.size w W := below_step (below_alloc (Below.refl _ _) o) h
theorem four_below {w W : World} (g : Nat) (h : Below w.heap.size w W) (hg : w.heap.size ≤ g) {u0 u1 u2 u3 : Value} : Below w.heap.size w ((((W.setCell ⟨g, 0, none⟩ u0).setCell ⟨g, 1, none⟩ u1).setCell ⟨g, 2, none⟩ u2).setCell ⟨g, 3, none⟩ u3) := below_set (below_set (below_set (below_set h hg) hg) hg) hg
theorem four_set {α : Type} {d : Kd α} {e base g t : Nat} {W : World} {ok : Nat → Prop} {v : Value} {xs : List α} (h : Kd.R d e W base ok v xs) {c0 c1 c2 c3 : Array Value} {u0 u1 u2 u3 : Value} (b0 : W.heap[g]? = some (.cells c0 t (0, 0))) (b1 : (W.setCell ⟨g, 0, none⟩ u0).heap[g]? = some (.cells c1 t (0, 0))) (b2 : ((W.setCell ⟨g, 0, none⟩ u0).setCell ⟨g, 1, none⟩ u1).heap[g]? = some (.cells c2 t (0, 0))) (b3 : (((W.setCell ⟨g, 0, none⟩ u0).setCell ⟨g, 1, none⟩ u1).setCell ⟨g, 2, none⟩ u2).heap[g]? = some (.cells c3 t (0, 0)))
  (ht : ∀ q, q ∈ e :: d.E → q ≠ t) : Kd.R d e ((((W.setCell ⟨g, 0, none⟩ u0).setCell ⟨g, 1, none⟩ u1).setCell ⟨g, 2, none⟩ u2).setCell ⟨g, 3, none⟩ u3) base ok v xs := Kd.R_set (Kd.R_set (Kd.R_set (Kd.R_set h b0 ht 0 u0) b1 ht 1 u1) b2 ht 2 u2) b3 ht 3 u3
theorem R_seen {α : Type} {d : Kd α} {e base : Nat} {W : World} {ok : Nat → Prop} {A : Option Addr} {c : Nat} {xs : List α} (h : Kd.R d e W base ok (.slice A xs.length c) xs) : xs.length ≤ c ∧ Kd.C d W A xs.length xs := by
 obtain ⟨A', c', he, hl, hC⟩ := Kd.R_reads h
 injection he with e1 e2 e3
 subst e1 e3
 exact ⟨hl, hC⟩
theorem readNode_leaf (k : Nat) (t body : ByteArray) (w : World) (hu : impl_Unsealed.f k t = some (body, true)) (hs : body.size ≤ 140737488351232) (h0 : 0 < body.size) (hb0 : ∀ h : 0 < body.size, ((body[0]'h).toNat : Int) = 108) (kn : Nat) (at0 : Int) (bad0 : Bool) (hk : rNum body 1 false 4 = ((kn : Int), at0, bad0)) (hkn : kn ≤ 4) (at_ : Int) (bad : Bool) (keys vals : List ByteArray) (kids : List Int) (hst : nIter true body 40 ⟨at0, bad0, [], [], []⟩ kn = ⟨at_, bad, keys, vals, kids⟩) (n : S68) (ok : Bool) (hres : (bad = false ∧ at_ = (body.size : Int) ∧ nodeOkB true keys vals kids = true ∧ n = ⟨true, keys, vals, kids⟩ ∧ ok = true) ∨ ((bad = true ∨ ¬ at_ = (body.size : Int) ∨ nodeOkB true keys vals kids = false) ∧ n = z68 ∧ ok = false)) :
  Calls Try.prog 30 #[.string t] w (NodePost w n ok) := by
 have HU := Aside0.mk hu
 have HK := Aside0.mk hk
 have HST := Aside0.mk hst
 have HRES := Aside0.mk hres
 obtain ⟨HL0, HL2⟩ := toList_ne body h0
 have HL1 : (!body.toList.isEmpty) = true := by rw [HL2]; rfl
 clear hu hk hst hres
 go_enter Try.func30, Try.ntmps30
 go_wp2_with fail
 ((with_reducible refine (impl_Unsealed.calls k t body true _ HU.out).mono ?_); rintro e w1 ⟨rfl, hb1⟩)
 obtain ⟨hc1, hf1⟩ := bcell hb1
 have hz1 : w.heap.size < w1.heap.size := by have hh := hb1.size; (try simp at hh); omega
 have HB1 := Aside0.mk hb1
 clear hb1
 have HI := Aside0.mk (show NInv (w.alloc (.cells #[.bool false, .slice none 0 0, .slice none 0 0, .slice none 0 0] 68)) ((w1.alloc (.cells #[.bool true, .slice none 0 0, .slice none 0 0, .slice none 0 0] 68)).alloc (.cells #[.string body, .int .i64 1, .bool false] 114)) w1.heap.size (w1.heap.size + 1) 114 body true (.slice none 0 0) (.slice none 0 0) (.slice none 0 0) 1 false [] [] [] from
  ⟨blk_alloc (blk_new w1 _) _, by have z := blk_new (w1.alloc (.cells #[.bool true, .slice none 0 0, .slice none 0 0, .slice none 0 0] 68)) (.cells #[.string body, .int .i64 1, .bool false] 114); simpa using z, by simp; omega, by simp; omega, Kd.R_nil _ _ _ _ _, Kd.R_nil _ _ _ _ _, Kd.R_nil _ _ _ _ _, fun k hk => by simp [Value.ownBlock] at hk, below_alloc (below_alloc HB1.out _) _⟩)
 go_wp2_with fail
 ((with_reducible refine (impl_num_rd HK.out hs HI.out.bR HI.out.hR HI.out.bel).mono ?_); rintro e w2 ⟨rfl, hI2, hb2, hk2⟩)
 have HN0 := Aside0.mk (HI.out.read (by decide) (by decide) (by decide) hI2 hb2 hk2)
 clear HI hI2 hb2 hk2 hc1 hf1
 go_wp2_with fail
 go_loopg [37] kn (fun gg s37 wr => ∃ (kk : Nat) (A1 : Option Addr) (c1 : Nat) (A2 : Option Addr) (c2 : Nat) (A3 : Option Addr) (c3 : Nat), kk ≤ kn ∧ kn - kk ≤ gg ∧ s37 = .int .i64 kk ∧ Aside0 (NInv (w.alloc (.cells #[.bool false, .slice none 0 0, .slice none 0 0, .slice none 0 0] 68)) wr w1.heap.size (w1.heap.size + 1) 114 body true (.slice A1 (nIter true body 40 ⟨at0, bad0, [], [], []⟩ kk).keys.length c1) (.slice A2 (nIter true body 40 ⟨at0, bad0, [], [], []⟩ kk).vals.length c2) (.slice A3 (nIter true body 40 ⟨at0, bad0, [], [], []⟩ kk).kids.length c3) (nIter true body 40 ⟨at0, bad0, [], [], []⟩ kk).at_ (nIter true body 40 ⟨at0, bad0, [], [], []⟩ kk).bad (nIter true body 40 ⟨at0, bad0, [], [], []⟩ kk).keys (nIter true body 40 ⟨at0, bad0, [], [], []⟩ kk).vals (nIter true body 40 ⟨at0, bad0, [], [], []⟩ kk).kids))
 case atStart => exact ⟨0, none, 0, none, 0, none, 0, Nat.zero_le _, by omega, rfl, HN0⟩
 case round =>
  clear HN0
  obtain ⟨kk, A1, c1, A2, c2, A3, c3, hkk, hg, rfl, HN⟩ := hrel
  by_cases hlt : kk < kn
  ·have hltz : (kk : Int) < (kn : Int) := by omega
   have HLEN0 := nIter_len true body 40 ⟨at0, bad0, [], [], []⟩ rfl rfl rfl kk
   have HSTEP := Aside0.mk (show (nIter true body 40 ⟨at0, bad0, [], [], []⟩ (kk + 1)) = nStep true body 40 (nIter true body 40 ⟨at0, bad0, [], [], []⟩ kk) from rfl)
   generalize hsk : nIter true body 40 ⟨at0, bad0, [], [], []⟩ kk = sk at HN HLEN0 HSTEP
   obtain ⟨a1, b1, keys1, vals1, kids1⟩ := sk
   clear hsk
   simp only at HN HLEN0
   obtain ⟨x1, a2, b2, hx⟩ : ∃ x1 a2 b2, rText body a1 b1 = (x1, a2, b2) := ⟨_, _, _, rfl⟩
   have HX := Aside0.mk hx
   have HX1 := Aside0.mk hx
   clear hx
   have HLEN := Aside0.mk (show keys1.length ≤ 4 by omega)
   have HLEV := Aside0.mk (show vals1.length ≤ 4 by omega)
   have HLEK := Aside0.mk (show kids1.length ≤ 4 by omega)
   clear HLEN0
   go_wp2_with fail
   obtain ⟨ks1, hks⟩ : ∃ z, z = keys1 ++ [x1] := ⟨_, rfl⟩
   have HKS1 := Aside0.mk hks
   clear hks
   have hNd := Aside0.mk HN.out.drew
   clear HN
   refine seq_start impl_ReadNode.ok8_0 (S := fun w' => w'.cell? ⟨w1.heap.size, 0, none⟩ = some (.bool true) ∧ w'.cell? ⟨w1.heap.size, 1, none⟩ = some (.slice A1 keys1.length c1) ∧ w'.cell? ⟨w1.heap.size, 2, none⟩ = some (.slice A2 vals1.length c2) ∧ w'.cell? ⟨w1.heap.size, 3, none⟩ = some (.slice A3 kids1.length c3)) (by kernel_rfl) (fun _ _ _ _ h => h) ⟨(blk_cell hNd.out.bN 0).trans rfl, (blk_cell hNd.out.bN 1).trans rfl, (blk_cell hNd.out.bN 2).trans rfl, (blk_cell hNd.out.bN 3).trans rfl⟩ (fun hHeld => ?_)
   generalize wr.drew = wd at hNd hHeld ⊢
   iterate 2 (refine seq_p (v := ?_) (a' := ?_) rfl rfl (Or.inl ⟨by rfl, ?_⟩) ?_ ?_; rotate_left; (· intro w'; go_simp; with_reducible rfl); rotate_left; (· show Act.put _ (some _) _ = _; simp only [Act.put, List.setIfInBounds_toArray, List.set_cons_zero, List.set_cons_succ, i64_w, i32_w]; try rfl))
   (refine seq_t (v := ?_) (a' := ?_) rfl rfl (Or.inl ⟨by rfl, ?_⟩) ?_ ?_; rotate_left; (· rintro w' ⟨s0, s1, s2, s3⟩; go_simp; with_reducible rfl); rotate_left; (· show Act.put _ (some _) _ = _; simp only [Act.put, List.setIfInBounds_toArray, List.set_cons_zero, List.set_cons_succ, i64_w, i32_w]; try rfl))
   refine seq_call rfl rfl Try.func88 (by kernel_rfl) rfl #[.pointer (some ⟨w1.heap.size + 1, 0, none⟩)] (by rfl) rfl (by (try simp only [List.map_toArray, List.map_cons, List.map_nil]); first | done | rfl) ?_
   with_reducible refine (impl_text_rd HX.out hs hNd.out.bR hNd.out.hR hNd.out.bel).mono ?_
   rintro e wc ⟨rfl, hIc, hbc, hkc⟩
   have hNc := Aside0.mk (hNd.out.read (by decide) (by decide) (by decide) hIc hbc hkc)
   clear hNd hIc hbc hkc
   refine ⟨_, rfl, ⟨(blk_cell hNc.out.bN 0).trans rfl, (blk_cell hNc.out.bN 1).trans rfl, (blk_cell hNc.out.bN 2).trans rfl, (blk_cell hNc.out.bN 3).trans rfl⟩, (fun hHeld => ?_)⟩
   refine seq_norm (a' := ?_) ?_ ?_; rotate_left; (· show Act.put _ (some 42) _ = _; simp only [Act.put, List.setIfInBounds_toArray, List.set_cons_zero, List.set_cons_succ, i64_w, i32_w]; try rfl)
   refine seq_e rfl rfl (fun K hK => ?_)
   refine value_ (w1 := ?_) (v := ?_) (by rfl) rfl ?_ ?_
   rotate_left 2
   ·go_simp
    constructor
    ·rfl
    ·rfl
   refine hK.out _ _ ⟨(blk_cell (blk_alloc hNc.out.bN _) 0).trans rfl, (blk_cell (blk_alloc hNc.out.bN _) 1).trans rfl, (blk_cell (blk_alloc hNc.out.bN _) 2).trans rfl, (blk_cell (blk_alloc hNc.out.bN _) 3).trans rfl⟩ (fun hHeld => ?_)
   clear hK K
   refine seq_norm (a' := ?_) ?_ ?_; rotate_left; (· show Act.put _ (some 43) _ = _; simp only [Act.put, List.setIfInBounds_toArray, List.set_cons_zero, List.set_cons_succ, i64_w, i32_w]; try rfl)
   refine seq_e rfl rfl (fun K hK => ?_)
   refine Kd.R_append_step Kd.string (w0 := (w.alloc (.cells #[.bool false, .slice none 0 0, .slice none 0 0, .slice none 0 0] 68))) ((w.alloc (.cells #[.bool false, .slice none 0 0, .slice none 0 0, .slice none 0 0] 68))).heap.size (by rfl) (.tmp 40) (.tmp 43) 22 9 (.string ⟨#[]⟩) 16 rfl Try.underlying22 info9 rfl (by decide) (by omega) (.slice A1 keys1.length c1) keys1 x1 [.string x1] (fun _ => True) (fun _ => False) rfl rfl ?aP (fun _ hk => hk.elim) ?aF ?aO ?aB ?aS ?aL ?_
   (case aP => exact rfl)
   (case aF => exact (fun _ _ => trivial))
   (case aO => exact hNc.out.rk)
   (case aB => exact hNc.out.bel)
   (case aS => exact hNc.out.bel.size)
   (case aL => have := HLEN.out; omega)
   intro va wa ho hb hg hat
   have bNa := Aside0.mk (blk_grown hNc.out.bN hg (Kd.R_ne hNc.out.rk hNc.out.bN (by decide)))
   rw [← HKS1.out] at ho
   obtain ⟨Ao1, co1, eo⟩ := Kd.R_slice ho
   subst eo
   have hNs := Aside0.mk (hNc.out.pushKey (by decide) (by decide) ho hb hg hat)
   clear ho hb hg hat
   refine hK.out _ _ ⟨(blk_cell bNa.out 0).trans rfl, (blk_cell bNa.out 1).trans rfl, (blk_cell bNa.out 2).trans rfl, (blk_cell bNa.out 3).trans rfl⟩ (fun hHeld => ?_)
   clear hK K
   refine seq_norm (a' := ?_) ?_ ?_; rotate_left; (· show Act.put _ (some 44) _ = _; simp only [Act.put, List.setIfInBounds_toArray, List.set_cons_zero, List.set_cons_succ, i64_w, i32_w]; try rfl)
   (refine seq_p (v := ?_) (a' := ?_) rfl rfl (Or.inl ⟨by rfl, ?_⟩) ?_ ?_; rotate_left; (· intro w'; go_simp; with_reducible rfl); rotate_left; (· show Act.put _ (some _) _ = _; simp only [Act.put, List.setIfInBounds_toArray, List.set_cons_zero, List.set_cons_succ, i64_w, i32_w]; try rfl))
   refine seq_l rfl rfl (fun K hK => ?_)
   have hs1 : wa.cell? ⟨w1.heap.size, 1, none⟩ = some (.slice A1 keys1.length c1) := (blk_cell bNa.out 1).trans rfl
   have hf1 := blk_frozen bNa.out 1
   refine skip_ (w1 := ?_) (by rfl) rfl ?_ ?_
   rotate_left
   ·go_simp
    rfl
   refine hK.out _ _ ?_
   clear hK K
   refine seq_done ?_
   clear hNc bNa hs1 hf1 hHeld
   generalize wa.setCell ⟨w1.heap.size, 1, none⟩ _ = w6 at hNs ⊢
   have HN2 := Aside0.mk hNs.out
   clear hNs
   clear HX HLEN
   have hcl : w6.cell? ⟨w1.heap.size, 0, none⟩ = some (.bool true) := (blk_cell HN2.out.bN 0).trans rfl
   obtain ⟨x2, a3, b3, hx⟩ : ∃ x2 a3 b3, rText body a2 b2 = (x2, a3, b3) := ⟨_, _, _, rfl⟩
   have HX := Aside0.mk hx
   have HX2 := Aside0.mk hx
   clear hx
   go_wp2_with fail
   obtain ⟨ks2, hks⟩ : ∃ z, z = vals1 ++ [x2] := ⟨_, rfl⟩
   have HKS2 := Aside0.mk hks
   clear hks
   have hNd := Aside0.mk HN2.out.drew
   clear HN2
   refine seq_start impl_ReadNode.ok10_1 (S := fun w' => w'.cell? ⟨w1.heap.size, 0, none⟩ = some (.bool true) ∧ w'.cell? ⟨w1.heap.size, 1, none⟩ = some (.slice Ao1 ks1.length co1) ∧ w'.cell? ⟨w1.heap.size, 2, none⟩ = some (.slice A2 vals1.length c2) ∧ w'.cell? ⟨w1.heap.size, 3, none⟩ = some (.slice A3 kids1.length c3)) (by kernel_rfl) (fun _ _ _ _ h => h) ⟨(blk_cell hNd.out.bN 0).trans rfl, (blk_cell hNd.out.bN 1).trans rfl, (blk_cell hNd.out.bN 2).trans rfl, (blk_cell hNd.out.bN 3).trans rfl⟩ (fun hHeld => ?_)
   generalize w6.drew = wd at hNd hHeld ⊢
   iterate 2 (refine seq_p (v := ?_) (a' := ?_) rfl rfl (Or.inl ⟨by rfl, ?_⟩) ?_ ?_; rotate_left; (· intro w'; go_simp; with_reducible rfl); rotate_left; (· show Act.put _ (some _) _ = _; simp only [Act.put, List.setIfInBounds_toArray, List.set_cons_zero, List.set_cons_succ, i64_w, i32_w]; try rfl))
   (refine seq_t (v := ?_) (a' := ?_) rfl rfl (Or.inl ⟨by rfl, ?_⟩) ?_ ?_; rotate_left; (· rintro w' ⟨s0, s1, s2, s3⟩; go_simp; with_reducible rfl); rotate_left; (· show Act.put _ (some _) _ = _; simp only [Act.put, List.setIfInBounds_toArray, List.set_cons_zero, List.set_cons_succ, i64_w, i32_w]; try rfl))
   refine seq_call rfl rfl Try.func88 (by kernel_rfl) rfl #[.pointer (some ⟨w1.heap.size + 1, 0, none⟩)] (by rfl) rfl (by (try simp only [List.map_toArray, List.map_cons, List.map_nil]); first | done | rfl) ?_
   with_reducible refine (impl_text_rd HX.out hs hNd.out.bR hNd.out.hR hNd.out.bel).mono ?_
   rintro e wc ⟨rfl, hIc, hbc, hkc⟩
   have hNc := Aside0.mk (hNd.out.read (by decide) (by decide) (by decide) hIc hbc hkc)
   clear hNd hIc hbc hkc
   refine ⟨_, rfl, ⟨(blk_cell hNc.out.bN 0).trans rfl, (blk_cell hNc.out.bN 1).trans rfl, (blk_cell hNc.out.bN 2).trans rfl, (blk_cell hNc.out.bN 3).trans rfl⟩, (fun hHeld => ?_)⟩
   refine seq_norm (a' := ?_) ?_ ?_; rotate_left; (· show Act.put _ (some 51) _ = _; simp only [Act.put, List.setIfInBounds_toArray, List.set_cons_zero, List.set_cons_succ, i64_w, i32_w]; try rfl)
   refine seq_e rfl rfl (fun K hK => ?_)
   refine value_ (w1 := ?_) (v := ?_) (by rfl) rfl ?_ ?_
   rotate_left 2
   ·go_simp
    constructor
    ·rfl
    ·rfl
   refine hK.out _ _ ⟨(blk_cell (blk_alloc hNc.out.bN _) 0).trans rfl, (blk_cell (blk_alloc hNc.out.bN _) 1).trans rfl, (blk_cell (blk_alloc hNc.out.bN _) 2).trans rfl, (blk_cell (blk_alloc hNc.out.bN _) 3).trans rfl⟩ (fun hHeld => ?_)
   clear hK K
   refine seq_norm (a' := ?_) ?_ ?_; rotate_left; (· show Act.put _ (some 52) _ = _; simp only [Act.put, List.setIfInBounds_toArray, List.set_cons_zero, List.set_cons_succ, i64_w, i32_w]; try rfl)
   refine seq_e rfl rfl (fun K hK => ?_)
   refine Kd.R_append_step Kd.string (w0 := (w.alloc (.cells #[.bool false, .slice none 0 0, .slice none 0 0, .slice none 0 0] 68))) ((w.alloc (.cells #[.bool false, .slice none 0 0, .slice none 0 0, .slice none 0 0] 68))).heap.size (by rfl) (.tmp 49) (.tmp 52) 22 9 (.string ⟨#[]⟩) 16 rfl Try.underlying22 info9 rfl (by decide) (by omega) (.slice A2 vals1.length c2) vals1 x2 [.string x2] (fun _ => True) (fun _ => False) rfl rfl ?aP (fun _ hk => hk.elim) ?aF ?aO ?aB ?aS ?aL ?_
   (case aP => exact rfl)
   (case aF => exact (fun _ _ => trivial))
   (case aO => exact hNc.out.rv)
   (case aB => exact hNc.out.bel)
   (case aS => exact hNc.out.bel.size)
   (case aL => have := HLEV.out; omega)
   intro va wa ho hb hg hat
   have bNa := Aside0.mk (blk_grown hNc.out.bN hg (Kd.R_ne hNc.out.rv hNc.out.bN (by decide)))
   rw [← HKS2.out] at ho
   obtain ⟨Ao2, co2, eo⟩ := Kd.R_slice ho
   subst eo
   have hNs := Aside0.mk (hNc.out.pushVal (by decide) (by decide) ho hb hg hat)
   clear ho hb hg hat
   refine hK.out _ _ ⟨(blk_cell bNa.out 0).trans rfl, (blk_cell bNa.out 1).trans rfl, (blk_cell bNa.out 2).trans rfl, (blk_cell bNa.out 3).trans rfl⟩ (fun hHeld => ?_)
   clear hK K
   refine seq_norm (a' := ?_) ?_ ?_; rotate_left; (· show Act.put _ (some 53) _ = _; simp only [Act.put, List.setIfInBounds_toArray, List.set_cons_zero, List.set_cons_succ, i64_w, i32_w]; try rfl)
   (refine seq_p (v := ?_) (a' := ?_) rfl rfl (Or.inl ⟨by rfl, ?_⟩) ?_ ?_; rotate_left; (· intro w'; go_simp; with_reducible rfl); rotate_left; (· show Act.put _ (some _) _ = _; simp only [Act.put, List.setIfInBounds_toArray, List.set_cons_zero, List.set_cons_succ, i64_w, i32_w]; try rfl))
   refine seq_l rfl rfl (fun K hK => ?_)
   have hs1 : wa.cell? ⟨w1.heap.size, 2, none⟩ = some (.slice A2 vals1.length c2) := (blk_cell bNa.out 2).trans rfl
   have hf1 := blk_frozen bNa.out 2
   refine skip_ (w1 := ?_) (by rfl) rfl ?_ ?_
   rotate_left
   ·go_simp
    rfl
   refine hK.out _ _ ?_
   clear hK K
   refine seq_done ?_
   clear hNc bNa hs1 hf1 hHeld
   generalize wa.setCell ⟨w1.heap.size, 2, none⟩ _ = w7 at hNs ⊢
   have HN3 := Aside0.mk hNs.out
   clear hNs
   clear HX
   go_wp2
   have hw : wrap64 ((kk : Int) + 1) = ((kk + 1 : Nat) : Int) := by unfold wrap64; omega
   have hfin : (nIter true body 40 ⟨at0, bad0, [], [], []⟩ (kk + 1)) = ⟨a3, b3, ks1, ks2, kids1⟩ := by rw [HSTEP.out]; simp [nStep, HX1.out, HX2.out, HKS1.out, HKS2.out]
   have HW := Aside0.mk hw
   have HF := Aside0.mk hfin
   clear hw hfin
   go_roundg (kn - (kk + 1))
   case measure => omega
   case rel => exact ⟨kk + 1, Ao1, co1, Ao2, co2, A3, c3, by omega, by omega, by first | rfl | exact congrArg (Value.int .i64) HW.out, by rw [HF.out]; exact HN3⟩
  ·have hltz : ¬ (kk : Int) < (kn : Int) := by omega
   have : kk = kn := by omega
   subst this
   rw [HST.out] at HN
   simp only at HN
   have hr0 : wr.cell? ⟨w1.heap.size + 1, 1, none⟩ = some (.int .i64 at_) := (blk_cell HN.out.bR 1).trans rfl
   have hn0 : wr.cell? ⟨w1.heap.size, 0, none⟩ = some (.bool true) := (blk_cell HN.out.bN 0).trans rfl
   have hn1 : wr.cell? ⟨w1.heap.size, 1, none⟩ = some (.slice A1 keys.length c1) := (blk_cell HN.out.bN 1).trans rfl
   have hn2 : wr.cell? ⟨w1.heap.size, 2, none⟩ = some (.slice A2 vals.length c2) := (blk_cell HN.out.bN 2).trans rfl
   have hn3 : wr.cell? ⟨w1.heap.size, 3, none⟩ = some (.slice A3 kids.length c3) := (blk_cell HN.out.bN 3).trans rfl
   have hbo := Aside0.mk (HN.out.bel.block w.heap.size (by simp))
   have BO := Aside0.mk (hbo.out.trans (blk_new w _))
   clear hbo
   have hfo := blk_frozen BO.out
   have hob0 : wr.cell? ⟨w.heap.size, 0, none⟩ = some (.bool false) := (blk_cell BO.out 0).trans rfl
   have hob1 : wr.cell? ⟨w.heap.size, 1, none⟩ = some (.slice none 0 0) := (blk_cell BO.out 1).trans rfl
   have hob2 : wr.cell? ⟨w.heap.size, 2, none⟩ = some (.slice none 0 0) := (blk_cell BO.out 2).trans rfl
   have hob3 : wr.cell? ⟨w.heap.size, 3, none⟩ = some (.slice none 0 0) := (blk_cell BO.out 3).trans rfl
   have hlo := blk_lt BO.out
   rcases HRES.out with ⟨e1, e2, e3, e4, e5⟩ | ⟨e1, e4, e5⟩
   ·subst e1 e4 e5
    have hr1 : wr.cell? ⟨w1.heap.size + 1, 2, none⟩ = some (.bool false) := (blk_cell HN.out.bR 2).trans rfl
    have hq := Aside0.mk e2
    have hq1 : (at_ != (body.size : Int)) = false := by rw [e2]; simp
    have HOK := Aside0.mk (show impl_NodeOk.f true keys vals kids = some true from congrArg some e3)
    have hlN := blk_lt HN.out.bN
    clear e2 e3
    go_wp2_with fail
    ((with_reducible refine (impl_NodeOk.calls true A1 c1 keys A2 c2 vals A3 c3 kids true _ (R_seen HN.out.rk).2 (R_seen HN.out.rk).1 (R_seen HN.out.rv).2 (R_seen HN.out.rv).1 (R_seen HN.out.ri).2 (R_seen HN.out.ri).1 HOK.out).mono ?_); rintro e w5 ⟨rfl, hb5⟩)
    obtain ⟨hc5, hf5⟩ := bcell hb5
    have BO5 := Aside0.mk (blk_below BO.out hb5)
    have HN5 := Aside0.mk (HN.out.below hb5)
    clear hb5
    go_wp2
    have B1 := blk_put BO5.out 0 (.bool true) rfl
    have B2 := blk_put B1 1 (.slice A1 keys.length c1) rfl
    have B3 := blk_put B2 2 (.slice A2 vals.length c2) rfl
    have B4 := blk_put B3 3 (.slice A3 kids.length c3) rfl
    refine bodyPost_ret (results_ct rfl _ _ w.heap.size 68 #[.bool true, .slice A1 keys.length c1, .slice A2 vals.length c2, .slice A3 kids.length c3] (0, 0) _ rfl B4 Try.underlying68 rfl (by kernel_rfl)) rfl ?_
    exact node_post (n := ⟨true, keys, vals, kids⟩) (Kd.R_lower (four_set HN5.out.rk BO5.out B1 B2 B3 (by decide)) (by simp)) (Kd.R_lower (four_set HN5.out.rv BO5.out B1 B2 B3 (by decide)) (by simp)) (Kd.R_lower (four_set HN5.out.ri BO5.out B1 B2 B3 (by decide)) (by simp)) (four_below w.heap.size (base_below HN5.out.bel) (Nat.le_refl _))
   ·subst e4 e5
    cases hbad : bad with
    | true =>
     subst hbad
     have hr1 : wr.cell? ⟨w1.heap.size + 1, 2, none⟩ = some (.bool true) := (blk_cell HN.out.bR 2).trans rfl
     go_wp2
     have B1 := blk_put BO.out 0 (.bool false) rfl
     have B2 := blk_put B1 1 (.slice none 0 0) rfl
     have B3 := blk_put B2 2 (.slice none 0 0) rfl
     have B4 := blk_put B3 3 (.slice none 0 0) rfl
     refine bodyPost_ret (results_ct rfl _ _ w.heap.size 68 #[.bool false, .slice none 0 0, .slice none 0 0, .slice none 0 0] (0, 0) _ rfl B4 Try.underlying68 rfl (by kernel_rfl)) rfl ?_
     exact node_post (n := z68) (Kd.R_nil _ _ _ _ _) (Kd.R_nil _ _ _ _ _) (Kd.R_nil _ _ _ _ _) (four_below w.heap.size (base_below HN.out.bel) (Nat.le_refl _))
    | false =>
     subst hbad
     have hr1 : wr.cell? ⟨w1.heap.size + 1, 2, none⟩ = some (.bool false) := (blk_cell HN.out.bR 2).trans rfl
     by_cases hq : at_ = (body.size : Int)
     ·have hq1 : (at_ != (body.size : Int)) = false := by rw [hq]; simp
      have e3 : nodeOkB true keys vals kids = false := by
       rcases e1 with e | e | e
       ·cases e
       ·exact absurd hq e
       ·exact e
      have HQ := Aside0.mk hq
      have HOK := Aside0.mk (show impl_NodeOk.f true keys vals kids = some false from congrArg some e3)
      have hlN := blk_lt HN.out.bN
      clear e1 e3 hq
      go_wp2_with fail
      ((with_reducible refine (impl_NodeOk.calls true A1 c1 keys A2 c2 vals A3 c3 kids false _ (R_seen HN.out.rk).2 (R_seen HN.out.rk).1 (R_seen HN.out.rv).2 (R_seen HN.out.rv).1 (R_seen HN.out.ri).2 (R_seen HN.out.ri).1 HOK.out).mono ?_); rintro e w5 ⟨rfl, hb5⟩)
      obtain ⟨hc5, hf5⟩ := bcell hb5
      have BO5 := Aside0.mk (blk_below BO.out hb5)
      have HN5 := Aside0.mk (HN.out.below hb5)
      clear hb5
      go_wp2
      have B1 := blk_put BO5.out 0 (.bool false) rfl
      have B2 := blk_put B1 1 (.slice none 0 0) rfl
      have B3 := blk_put B2 2 (.slice none 0 0) rfl
      have B4 := blk_put B3 3 (.slice none 0 0) rfl
      refine bodyPost_ret (results_ct rfl _ _ w.heap.size 68 #[.bool false, .slice none 0 0, .slice none 0 0, .slice none 0 0] (0, 0) _ rfl B4 Try.underlying68 rfl (by kernel_rfl)) rfl ?_
      exact node_post (n := z68) (Kd.R_nil _ _ _ _ _) (Kd.R_nil _ _ _ _ _) (Kd.R_nil _ _ _ _ _) (four_below w.heap.size (base_below HN5.out.bel) (Nat.le_refl _))
     ·have hq1 : (at_ != (body.size : Int)) = true := by simpa using hq
      have hq2 : decide (at_ = (body.size : Int)) = false := decide_eq_false hq
      have HQ := Aside0.mk hq
      clear hq e1
      go_wp2
      have B1 := blk_put BO.out 0 (.bool false) rfl
      have B2 := blk_put B1 1 (.slice none 0 0) rfl
      have B3 := blk_put B2 2 (.slice none 0 0) rfl
      have B4 := blk_put B3 3 (.slice none 0 0) rfl
      refine bodyPost_ret (results_ct rfl _ _ w.heap.size 68 #[.bool false, .slice none 0 0, .slice none 0 0, .slice none 0 0] (0, 0) _ rfl B4 Try.underlying68 rfl (by kernel_rfl)) rfl ?_
      exact node_post (n := z68) (Kd.R_nil _ _ _ _ _) (Kd.R_nil _ _ _ _ _) (Kd.R_nil _ _ _ _ _) (four_below w.heap.size (base_below HN.out.bel) (Nat.le_refl _))
theorem readNode_branch (k : Nat) (t body : ByteArray) (w : World) (hu : impl_Unsealed.f k t = some (body, true)) (hs : body.size ≤ 140737488351232) (h0 : 0 < body.size) (hb0 : ∀ h : 0 < body.size, ((body[0]'h).toNat : Int) = 98) (kn : Nat) (at0 : Int) (bad0 : Bool) (hk : rNum body 1 false 4 = ((kn : Int), at0, bad0)) (hkn : kn ≤ 4) (at_ : Int) (bad : Bool) (keys vals : List ByteArray) (kids : List Int) (hst : nIter false body 40 ⟨at0, bad0, [], [], []⟩ kn = ⟨at_, bad, keys, vals, kids⟩) (n : S68) (ok : Bool) (hres : (bad = false ∧ at_ = (body.size : Int) ∧ nodeOkB false keys vals kids = true ∧ n = ⟨false, keys, vals, kids⟩ ∧ ok = true) ∨ ((bad = true ∨ ¬ at_ = (body.size : Int) ∨ nodeOkB false keys vals kids = false) ∧ n = z68 ∧ ok = false)) :
  Calls Try.prog 30 #[.string t] w (NodePost w n ok) := by
 have HU := Aside0.mk hu
 have HK := Aside0.mk hk
 have HST := Aside0.mk hst
 have HRES := Aside0.mk hres
 obtain ⟨HL0, HL2⟩ := toList_ne body h0
 have HL1 : (!body.toList.isEmpty) = true := by rw [HL2]; rfl
 clear hu hk hst hres
 go_enter Try.func30, Try.ntmps30
 go_wp2_with fail
 ((with_reducible refine (impl_Unsealed.calls k t body true _ HU.out).mono ?_); rintro e w1 ⟨rfl, hb1⟩)
 obtain ⟨hc1, hf1⟩ := bcell hb1
 have hz1 : w.heap.size < w1.heap.size := by have hh := hb1.size; (try simp at hh); omega
 have HB1 := Aside0.mk hb1
 clear hb1
 have HI := Aside0.mk (show NInv (w.alloc (.cells #[.bool false, .slice none 0 0, .slice none 0 0, .slice none 0 0] 68)) ((w1.alloc (.cells #[.bool false, .slice none 0 0, .slice none 0 0, .slice none 0 0] 68)).alloc (.cells #[.string body, .int .i64 1, .bool false] 114)) w1.heap.size (w1.heap.size + 1) 114 body false (.slice none 0 0) (.slice none 0 0) (.slice none 0 0) 1 false [] [] [] from
  ⟨blk_alloc (blk_new w1 _) _, by have z := blk_new (w1.alloc (.cells #[.bool false, .slice none 0 0, .slice none 0 0, .slice none 0 0] 68)) (.cells #[.string body, .int .i64 1, .bool false] 114); simpa using z, by simp; omega, by simp; omega, Kd.R_nil _ _ _ _ _, Kd.R_nil _ _ _ _ _, Kd.R_nil _ _ _ _ _, fun k hk => by simp [Value.ownBlock] at hk, below_alloc (below_alloc HB1.out _) _⟩)
 go_wp2_with fail
 ((with_reducible refine (impl_num_rd HK.out hs HI.out.bR HI.out.hR HI.out.bel).mono ?_); rintro e w2 ⟨rfl, hI2, hb2, hk2⟩)
 have HN0 := Aside0.mk (HI.out.read (by decide) (by decide) (by decide) hI2 hb2 hk2)
 clear HI hI2 hb2 hk2 hc1 hf1
 go_wp2_with fail
 go_loopg [37] kn (fun gg s37 wr => ∃ (kk : Nat) (A1 : Option Addr) (c1 : Nat) (A2 : Option Addr) (c2 : Nat) (A3 : Option Addr) (c3 : Nat), kk ≤ kn ∧ kn - kk ≤ gg ∧ s37 = .int .i64 kk ∧ Aside0 (NInv (w.alloc (.cells #[.bool false, .slice none 0 0, .slice none 0 0, .slice none 0 0] 68)) wr w1.heap.size (w1.heap.size + 1) 114 body false (.slice A1 (nIter false body 40 ⟨at0, bad0, [], [], []⟩ kk).keys.length c1) (.slice A2 (nIter false body 40 ⟨at0, bad0, [], [], []⟩ kk).vals.length c2) (.slice A3 (nIter false body 40 ⟨at0, bad0, [], [], []⟩ kk).kids.length c3) (nIter false body 40 ⟨at0, bad0, [], [], []⟩ kk).at_ (nIter false body 40 ⟨at0, bad0, [], [], []⟩ kk).bad (nIter false body 40 ⟨at0, bad0, [], [], []⟩ kk).keys (nIter false body 40 ⟨at0, bad0, [], [], []⟩ kk).vals (nIter false body 40 ⟨at0, bad0, [], [], []⟩ kk).kids))
 case atStart => exact ⟨0, none, 0, none, 0, none, 0, Nat.zero_le _, by omega, rfl, HN0⟩
 case round =>
  clear HN0
  obtain ⟨kk, A1, c1, A2, c2, A3, c3, hkk, hg, rfl, HN⟩ := hrel
  by_cases hlt : kk < kn
  ·have hltz : (kk : Int) < (kn : Int) := by omega
   have HLEN0 := nIter_len false body 40 ⟨at0, bad0, [], [], []⟩ rfl rfl rfl kk
   have HSTEP := Aside0.mk (show (nIter false body 40 ⟨at0, bad0, [], [], []⟩ (kk + 1)) = nStep false body 40 (nIter false body 40 ⟨at0, bad0, [], [], []⟩ kk) from rfl)
   generalize hsk : nIter false body 40 ⟨at0, bad0, [], [], []⟩ kk = sk at HN HLEN0 HSTEP
   obtain ⟨a1, b1, keys1, vals1, kids1⟩ := sk
   clear hsk
   simp only at HN HLEN0
   obtain ⟨x1, a2, b2, hx⟩ : ∃ x1 a2 b2, rText body a1 b1 = (x1, a2, b2) := ⟨_, _, _, rfl⟩
   have HX := Aside0.mk hx
   have HX1 := Aside0.mk hx
   clear hx
   have HLEN := Aside0.mk (show keys1.length ≤ 4 by omega)
   have HLEV := Aside0.mk (show vals1.length ≤ 4 by omega)
   have HLEK := Aside0.mk (show kids1.length ≤ 4 by omega)
   clear HLEN0
   go_wp2_with fail
   obtain ⟨ks1, hks⟩ : ∃ z, z = keys1 ++ [x1] := ⟨_, rfl⟩
   have HKS1 := Aside0.mk hks
   clear hks
   have hNd := Aside0.mk HN.out.drew
   clear HN
   refine seq_start impl_ReadNode.ok8_0 (S := fun w' => w'.cell? ⟨w1.heap.size, 0, none⟩ = some (.bool false) ∧ w'.cell? ⟨w1.heap.size, 1, none⟩ = some (.slice A1 keys1.length c1) ∧ w'.cell? ⟨w1.heap.size, 2, none⟩ = some (.slice A2 vals1.length c2) ∧ w'.cell? ⟨w1.heap.size, 3, none⟩ = some (.slice A3 kids1.length c3)) (by kernel_rfl) (fun _ _ _ _ h => h) ⟨(blk_cell hNd.out.bN 0).trans rfl, (blk_cell hNd.out.bN 1).trans rfl, (blk_cell hNd.out.bN 2).trans rfl, (blk_cell hNd.out.bN 3).trans rfl⟩ (fun hHeld => ?_)
   generalize wr.drew = wd at hNd hHeld ⊢
   iterate 2 (refine seq_p (v := ?_) (a' := ?_) rfl rfl (Or.inl ⟨by rfl, ?_⟩) ?_ ?_; rotate_left; (· intro w'; go_simp; with_reducible rfl); rotate_left; (· show Act.put _ (some _) _ = _; simp only [Act.put, List.setIfInBounds_toArray, List.set_cons_zero, List.set_cons_succ, i64_w, i32_w]; try rfl))
   (refine seq_t (v := ?_) (a' := ?_) rfl rfl (Or.inl ⟨by rfl, ?_⟩) ?_ ?_; rotate_left; (· rintro w' ⟨s0, s1, s2, s3⟩; go_simp; with_reducible rfl); rotate_left; (· show Act.put _ (some _) _ = _; simp only [Act.put, List.setIfInBounds_toArray, List.set_cons_zero, List.set_cons_succ, i64_w, i32_w]; try rfl))
   refine seq_call rfl rfl Try.func88 (by kernel_rfl) rfl #[.pointer (some ⟨w1.heap.size + 1, 0, none⟩)] (by rfl) rfl (by (try simp only [List.map_toArray, List.map_cons, List.map_nil]); first | done | rfl) ?_
   with_reducible refine (impl_text_rd HX.out hs hNd.out.bR hNd.out.hR hNd.out.bel).mono ?_
   rintro e wc ⟨rfl, hIc, hbc, hkc⟩
   have hNc := Aside0.mk (hNd.out.read (by decide) (by decide) (by decide) hIc hbc hkc)
   clear hNd hIc hbc hkc
   refine ⟨_, rfl, ⟨(blk_cell hNc.out.bN 0).trans rfl, (blk_cell hNc.out.bN 1).trans rfl, (blk_cell hNc.out.bN 2).trans rfl, (blk_cell hNc.out.bN 3).trans rfl⟩, (fun hHeld => ?_)⟩
   refine seq_norm (a' := ?_) ?_ ?_; rotate_left; (· show Act.put _ (some 42) _ = _; simp only [Act.put, List.setIfInBounds_toArray, List.set_cons_zero, List.set_cons_succ, i64_w, i32_w]; try rfl)
   refine seq_e rfl rfl (fun K hK => ?_)
   refine value_ (w1 := ?_) (v := ?_) (by rfl) rfl ?_ ?_
   rotate_left 2
   ·go_simp
    constructor
    ·rfl
    ·rfl
   refine hK.out _ _ ⟨(blk_cell (blk_alloc hNc.out.bN _) 0).trans rfl, (blk_cell (blk_alloc hNc.out.bN _) 1).trans rfl, (blk_cell (blk_alloc hNc.out.bN _) 2).trans rfl, (blk_cell (blk_alloc hNc.out.bN _) 3).trans rfl⟩ (fun hHeld => ?_)
   clear hK K
   refine seq_norm (a' := ?_) ?_ ?_; rotate_left; (· show Act.put _ (some 43) _ = _; simp only [Act.put, List.setIfInBounds_toArray, List.set_cons_zero, List.set_cons_succ, i64_w, i32_w]; try rfl)
   refine seq_e rfl rfl (fun K hK => ?_)
   refine Kd.R_append_step Kd.string (w0 := (w.alloc (.cells #[.bool false, .slice none 0 0, .slice none 0 0, .slice none 0 0] 68))) ((w.alloc (.cells #[.bool false, .slice none 0 0, .slice none 0 0, .slice none 0 0] 68))).heap.size (by rfl) (.tmp 40) (.tmp 43) 22 9 (.string ⟨#[]⟩) 16 rfl Try.underlying22 info9 rfl (by decide) (by omega) (.slice A1 keys1.length c1) keys1 x1 [.string x1] (fun _ => True) (fun _ => False) rfl rfl ?aP (fun _ hk => hk.elim) ?aF ?aO ?aB ?aS ?aL ?_
   (case aP => exact rfl)
   (case aF => exact (fun _ _ => trivial))
   (case aO => exact hNc.out.rk)
   (case aB => exact hNc.out.bel)
   (case aS => exact hNc.out.bel.size)
   (case aL => have := HLEN.out; omega)
   intro va wa ho hb hg hat
   have bNa := Aside0.mk (blk_grown hNc.out.bN hg (Kd.R_ne hNc.out.rk hNc.out.bN (by decide)))
   rw [← HKS1.out] at ho
   obtain ⟨Ao1, co1, eo⟩ := Kd.R_slice ho
   subst eo
   have hNs := Aside0.mk (hNc.out.pushKey (by decide) (by decide) ho hb hg hat)
   clear ho hb hg hat
   refine hK.out _ _ ⟨(blk_cell bNa.out 0).trans rfl, (blk_cell bNa.out 1).trans rfl, (blk_cell bNa.out 2).trans rfl, (blk_cell bNa.out 3).trans rfl⟩ (fun hHeld => ?_)
   clear hK K
   refine seq_norm (a' := ?_) ?_ ?_; rotate_left; (· show Act.put _ (some 44) _ = _; simp only [Act.put, List.setIfInBounds_toArray, List.set_cons_zero, List.set_cons_succ, i64_w, i32_w]; try rfl)
   (refine seq_p (v := ?_) (a' := ?_) rfl rfl (Or.inl ⟨by rfl, ?_⟩) ?_ ?_; rotate_left; (· intro w'; go_simp; with_reducible rfl); rotate_left; (· show Act.put _ (some _) _ = _; simp only [Act.put, List.setIfInBounds_toArray, List.set_cons_zero, List.set_cons_succ, i64_w, i32_w]; try rfl))
   refine seq_l rfl rfl (fun K hK => ?_)
   have hs1 : wa.cell? ⟨w1.heap.size, 1, none⟩ = some (.slice A1 keys1.length c1) := (blk_cell bNa.out 1).trans rfl
   have hf1 := blk_frozen bNa.out 1
   refine skip_ (w1 := ?_) (by rfl) rfl ?_ ?_
   rotate_left
   ·go_simp
    rfl
   refine hK.out _ _ ?_
   clear hK K
   refine seq_done ?_
   clear hNc bNa hs1 hf1 hHeld
   generalize wa.setCell ⟨w1.heap.size, 1, none⟩ _ = w6 at hNs ⊢
   have HN2 := Aside0.mk hNs.out
   clear hNs
   clear HX HLEN
   have hcl : w6.cell? ⟨w1.heap.size, 0, none⟩ = some (.bool false) := (blk_cell HN2.out.bN 0).trans rfl
   obtain ⟨x2, a3, b3, hx⟩ : ∃ x2 a3 b3, rNum body a2 b2 40 = (x2, a3, b3) := ⟨_, _, _, rfl⟩
   have HX := Aside0.mk hx
   have HX2 := Aside0.mk hx
   clear hx
   go_wp2_with fail
   obtain ⟨ks3, hks⟩ : ∃ z, z = kids1 ++ [x2] := ⟨_, rfl⟩
   have HKS3 := Aside0.mk hks
   clear hks
   have hNd := Aside0.mk HN2.out.drew
   clear HN2
   refine seq_start impl_ReadNode.ok11_2 (S := fun w' => w'.cell? ⟨w1.heap.size, 0, none⟩ = some (.bool false) ∧ w'.cell? ⟨w1.heap.size, 1, none⟩ = some (.slice Ao1 ks1.length co1) ∧ w'.cell? ⟨w1.heap.size, 2, none⟩ = some (.slice A2 vals1.length c2) ∧ w'.cell? ⟨w1.heap.size, 3, none⟩ = some (.slice A3 kids1.length c3)) (by kernel_rfl) (fun _ _ _ _ h => h) ⟨(blk_cell hNd.out.bN 0).trans rfl, (blk_cell hNd.out.bN 1).trans rfl, (blk_cell hNd.out.bN 2).trans rfl, (blk_cell hNd.out.bN 3).trans rfl⟩ (fun hHeld => ?_)
   generalize w6.drew = wd at hNd hHeld ⊢
   iterate 2 (refine seq_p (v := ?_) (a' := ?_) rfl rfl (Or.inl ⟨by rfl, ?_⟩) ?_ ?_; rotate_left; (· intro w'; go_simp; with_reducible rfl); rotate_left; (· show Act.put _ (some _) _ = _; simp only [Act.put, List.setIfInBounds_toArray, List.set_cons_zero, List.set_cons_succ, i64_w, i32_w]; try rfl))
   (refine seq_t (v := ?_) (a' := ?_) rfl rfl (Or.inl ⟨by rfl, ?_⟩) ?_ ?_; rotate_left; (· rintro w' ⟨s0, s1, s2, s3⟩; go_simp; with_reducible rfl); rotate_left; (· show Act.put _ (some _) _ = _; simp only [Act.put, List.setIfInBounds_toArray, List.set_cons_zero, List.set_cons_succ, i64_w, i32_w]; try rfl))
   refine seq_call rfl rfl Try.func70 (by kernel_rfl) rfl #[.pointer (some ⟨w1.heap.size + 1, 0, none⟩), .int .i64 40] (by rfl) rfl (by (try simp only [List.map_toArray, List.map_cons, List.map_nil]); first | done | rfl) ?_
   with_reducible refine (impl_num_rd HX.out hs hNd.out.bR hNd.out.hR hNd.out.bel).mono ?_
   rintro e wc ⟨rfl, hIc, hbc, hkc⟩
   have hNc := Aside0.mk (hNd.out.read (by decide) (by decide) (by decide) hIc hbc hkc)
   clear hNd hIc hbc hkc
   refine ⟨_, rfl, ⟨(blk_cell hNc.out.bN 0).trans rfl, (blk_cell hNc.out.bN 1).trans rfl, (blk_cell hNc.out.bN 2).trans rfl, (blk_cell hNc.out.bN 3).trans rfl⟩, (fun hHeld => ?_)⟩
   refine seq_norm (a' := ?_) ?_ ?_; rotate_left; (· show Act.put _ (some 58) _ = _; simp only [Act.put, List.setIfInBounds_toArray, List.set_cons_zero, List.set_cons_succ, i64_w, i32_w]; try rfl)
   refine seq_e rfl rfl (fun K hK => ?_)
   refine value_ (w1 := ?_) (v := ?_) (by rfl) rfl ?_ ?_
   rotate_left 2
   ·go_simp
    constructor
    ·rfl
    ·rfl
   refine hK.out _ _ ⟨(blk_cell (blk_alloc hNc.out.bN _) 0).trans rfl, (blk_cell (blk_alloc hNc.out.bN _) 1).trans rfl, (blk_cell (blk_alloc hNc.out.bN _) 2).trans rfl, (blk_cell (blk_alloc hNc.out.bN _) 3).trans rfl⟩ (fun hHeld => ?_)
   clear hK K
   refine seq_norm (a' := ?_) ?_ ?_; rotate_left; (· show Act.put _ (some 59) _ = _; simp only [Act.put, List.setIfInBounds_toArray, List.set_cons_zero, List.set_cons_succ, i64_w, i32_w]; try rfl)
   refine seq_e rfl rfl (fun K hK => ?_)
   refine Kd.R_append_step (Kd.int .i64) (w0 := (w.alloc (.cells #[.bool false, .slice none 0 0, .slice none 0 0, .slice none 0 0] 68))) ((w.alloc (.cells #[.bool false, .slice none 0 0, .slice none 0 0, .slice none 0 0] 68))).heap.size (by rfl) (.tmp 56) (.tmp 59) 30 3 (.int .i64 0) 8 rfl Try.underlying30 info3_ rfl (by decide) (by omega) (.slice A3 kids1.length c3) kids1 x2 [.int .i64 x2] (fun _ => True) (fun _ => False) rfl rfl ?aP (fun _ hk => hk.elim) ?aF ?aO ?aB ?aS ?aL ?_
   (case aP => exact rfl)
   (case aF => exact (fun _ _ => trivial))
   (case aO => exact hNc.out.ri)
   (case aB => exact hNc.out.bel)
   (case aS => exact hNc.out.bel.size)
   (case aL => have := HLEK.out; omega)
   intro va wa ho hb hg hat
   have bNa := Aside0.mk (blk_grown hNc.out.bN hg (Kd.R_ne hNc.out.ri hNc.out.bN (by decide)))
   rw [← HKS3.out] at ho
   obtain ⟨Ao3, co3, eo⟩ := Kd.R_slice ho
   subst eo
   have hNs := Aside0.mk (hNc.out.pushKid (by decide) (by decide) ho hb hg)
   clear ho hb hg hat
   refine hK.out _ _ ⟨(blk_cell bNa.out 0).trans rfl, (blk_cell bNa.out 1).trans rfl, (blk_cell bNa.out 2).trans rfl, (blk_cell bNa.out 3).trans rfl⟩ (fun hHeld => ?_)
   clear hK K
   refine seq_norm (a' := ?_) ?_ ?_; rotate_left; (· show Act.put _ (some 60) _ = _; simp only [Act.put, List.setIfInBounds_toArray, List.set_cons_zero, List.set_cons_succ, i64_w, i32_w]; try rfl)
   (refine seq_p (v := ?_) (a' := ?_) rfl rfl (Or.inl ⟨by rfl, ?_⟩) ?_ ?_; rotate_left; (· intro w'; go_simp; with_reducible rfl); rotate_left; (· show Act.put _ (some _) _ = _; simp only [Act.put, List.setIfInBounds_toArray, List.set_cons_zero, List.set_cons_succ, i64_w, i32_w]; try rfl))
   refine seq_l rfl rfl (fun K hK => ?_)
   have hs1 : wa.cell? ⟨w1.heap.size, 3, none⟩ = some (.slice A3 kids1.length c3) := (blk_cell bNa.out 3).trans rfl
   have hf1 := blk_frozen bNa.out 3
   refine skip_ (w1 := ?_) (by rfl) rfl ?_ ?_
   rotate_left
   ·go_simp
    rfl
   refine hK.out _ _ ?_
   clear hK K
   refine seq_done ?_
   clear hNc bNa hs1 hf1 hHeld
   generalize wa.setCell ⟨w1.heap.size, 3, none⟩ _ = w7 at hNs ⊢
   have HN3 := Aside0.mk hNs.out
   clear hNs
   clear HX
   go_wp2
   have hw : wrap64 ((kk : Int) + 1) = ((kk + 1 : Nat) : Int) := by unfold wrap64; omega
   have hfin : (nIter false body 40 ⟨at0, bad0, [], [], []⟩ (kk + 1)) = ⟨a3, b3, ks1, vals1, ks3⟩ := by rw [HSTEP.out]; simp [nStep, HX1.out, HX2.out, HKS1.out, HKS3.out]
   have HW := Aside0.mk hw
   have HF := Aside0.mk hfin
   clear hw hfin
   go_roundg (kn - (kk + 1))
   case measure => omega
   case rel => exact ⟨kk + 1, Ao1, co1, A2, c2, Ao3, co3, by omega, by omega, by first | rfl | exact congrArg (Value.int .i64) HW.out, by rw [HF.out]; exact HN3⟩
  ·have hltz : ¬ (kk : Int) < (kn : Int) := by omega
   have : kk = kn := by omega
   subst this
   rw [HST.out] at HN
   simp only at HN
   have hr0 : wr.cell? ⟨w1.heap.size + 1, 1, none⟩ = some (.int .i64 at_) := (blk_cell HN.out.bR 1).trans rfl
   have hn0 : wr.cell? ⟨w1.heap.size, 0, none⟩ = some (.bool false) := (blk_cell HN.out.bN 0).trans rfl
   have hn1 : wr.cell? ⟨w1.heap.size, 1, none⟩ = some (.slice A1 keys.length c1) := (blk_cell HN.out.bN 1).trans rfl
   have hn2 : wr.cell? ⟨w1.heap.size, 2, none⟩ = some (.slice A2 vals.length c2) := (blk_cell HN.out.bN 2).trans rfl
   have hn3 : wr.cell? ⟨w1.heap.size, 3, none⟩ = some (.slice A3 kids.length c3) := (blk_cell HN.out.bN 3).trans rfl
   have hbo := Aside0.mk (HN.out.bel.block w.heap.size (by simp))
   have BO := Aside0.mk (hbo.out.trans (blk_new w _))
   clear hbo
   have hfo := blk_frozen BO.out
   have hob0 : wr.cell? ⟨w.heap.size, 0, none⟩ = some (.bool false) := (blk_cell BO.out 0).trans rfl
   have hob1 : wr.cell? ⟨w.heap.size, 1, none⟩ = some (.slice none 0 0) := (blk_cell BO.out 1).trans rfl
   have hob2 : wr.cell? ⟨w.heap.size, 2, none⟩ = some (.slice none 0 0) := (blk_cell BO.out 2).trans rfl
   have hob3 : wr.cell? ⟨w.heap.size, 3, none⟩ = some (.slice none 0 0) := (blk_cell BO.out 3).trans rfl
   have hlo := blk_lt BO.out
   rcases HRES.out with ⟨e1, e2, e3, e4, e5⟩ | ⟨e1, e4, e5⟩
   ·subst e1 e4 e5
    have hr1 : wr.cell? ⟨w1.heap.size + 1, 2, none⟩ = some (.bool false) := (blk_cell HN.out.bR 2).trans rfl
    have hq := Aside0.mk e2
    have hq1 : (at_ != (body.size : Int)) = false := by rw [e2]; simp
    have HOK := Aside0.mk (show impl_NodeOk.f false keys vals kids = some true from congrArg some e3)
    have hlN := blk_lt HN.out.bN
    clear e2 e3
    go_wp2_with fail
    ((with_reducible refine (impl_NodeOk.calls false A1 c1 keys A2 c2 vals A3 c3 kids true _ (R_seen HN.out.rk).2 (R_seen HN.out.rk).1 (R_seen HN.out.rv).2 (R_seen HN.out.rv).1 (R_seen HN.out.ri).2 (R_seen HN.out.ri).1 HOK.out).mono ?_); rintro e w5 ⟨rfl, hb5⟩)
    obtain ⟨hc5, hf5⟩ := bcell hb5
    have BO5 := Aside0.mk (blk_below BO.out hb5)
    have HN5 := Aside0.mk (HN.out.below hb5)
    clear hb5
    go_wp2
    have B1 := blk_put BO5.out 0 (.bool false) rfl
    have B2 := blk_put B1 1 (.slice A1 keys.length c1) rfl
    have B3 := blk_put B2 2 (.slice A2 vals.length c2) rfl
    have B4 := blk_put B3 3 (.slice A3 kids.length c3) rfl
    refine bodyPost_ret (results_ct rfl _ _ w.heap.size 68 #[.bool false, .slice A1 keys.length c1, .slice A2 vals.length c2, .slice A3 kids.length c3] (0, 0) _ rfl B4 Try.underlying68 rfl (by kernel_rfl)) rfl ?_
    exact node_post (n := ⟨false, keys, vals, kids⟩) (Kd.R_lower (four_set HN5.out.rk BO5.out B1 B2 B3 (by decide)) (by simp)) (Kd.R_lower (four_set HN5.out.rv BO5.out B1 B2 B3 (by decide)) (by simp)) (Kd.R_lower (four_set HN5.out.ri BO5.out B1 B2 B3 (by decide)) (by simp)) (four_below w.heap.size (base_below HN5.out.bel) (Nat.le_refl _))
   ·subst e4 e5
    cases hbad : bad with
    | true =>
     subst hbad
     have hr1 : wr.cell? ⟨w1.heap.size + 1, 2, none⟩ = some (.bool true) := (blk_cell HN.out.bR 2).trans rfl
     go_wp2
     have B1 := blk_put BO.out 0 (.bool false) rfl
     have B2 := blk_put B1 1 (.slice none 0 0) rfl
     have B3 := blk_put B2 2 (.slice none 0 0) rfl
     have B4 := blk_put B3 3 (.slice none 0 0) rfl
     refine bodyPost_ret (results_ct rfl _ _ w.heap.size 68 #[.bool false, .slice none 0 0, .slice none 0 0, .slice none 0 0] (0, 0) _ rfl B4 Try.underlying68 rfl (by kernel_rfl)) rfl ?_
     exact node_post (n := z68) (Kd.R_nil _ _ _ _ _) (Kd.R_nil _ _ _ _ _) (Kd.R_nil _ _ _ _ _) (four_below w.heap.size (base_below HN.out.bel) (Nat.le_refl _))
    | false =>
     subst hbad
     have hr1 : wr.cell? ⟨w1.heap.size + 1, 2, none⟩ = some (.bool false) := (blk_cell HN.out.bR 2).trans rfl
     by_cases hq : at_ = (body.size : Int)
     ·have hq1 : (at_ != (body.size : Int)) = false := by rw [hq]; simp
      have e3 : nodeOkB false keys vals kids = false := by
       rcases e1 with e | e | e
       ·cases e
       ·exact absurd hq e
       ·exact e
      have HQ := Aside0.mk hq
      have HOK := Aside0.mk (show impl_NodeOk.f false keys vals kids = some false from congrArg some e3)
      have hlN := blk_lt HN.out.bN
      clear e1 e3 hq
      go_wp2_with fail
      ((with_reducible refine (impl_NodeOk.calls false A1 c1 keys A2 c2 vals A3 c3 kids false _ (R_seen HN.out.rk).2 (R_seen HN.out.rk).1 (R_seen HN.out.rv).2 (R_seen HN.out.rv).1 (R_seen HN.out.ri).2 (R_seen HN.out.ri).1 HOK.out).mono ?_); rintro e w5 ⟨rfl, hb5⟩)
      obtain ⟨hc5, hf5⟩ := bcell hb5
      have BO5 := Aside0.mk (blk_below BO.out hb5)
      have HN5 := Aside0.mk (HN.out.below hb5)
      clear hb5
      go_wp2
      have B1 := blk_put BO5.out 0 (.bool false) rfl
      have B2 := blk_put B1 1 (.slice none 0 0) rfl
      have B3 := blk_put B2 2 (.slice none 0 0) rfl
      have B4 := blk_put B3 3 (.slice none 0 0) rfl
      refine bodyPost_ret (results_ct rfl _ _ w.heap.size 68 #[.bool false, .slice none 0 0, .slice none 0 0, .slice none 0 0] (0, 0) _ rfl B4 Try.underlying68 rfl (by kernel_rfl)) rfl ?_
      exact node_post (n := z68) (Kd.R_nil _ _ _ _ _) (Kd.R_nil _ _ _ _ _) (Kd.R_nil _ _ _ _ _) (four_below w.heap.size (base_below HN5.out.bel) (Nat.le_refl _))
     ·have hq1 : (at_ != (body.size : Int)) = true := by simpa using hq
      have hq2 : decide (at_ = (body.size : Int)) = false := decide_eq_false hq
      have HQ := Aside0.mk hq
      clear hq e1
      go_wp2
      have B1 := blk_put BO.out 0 (.bool false) rfl
      have B2 := blk_put B1 1 (.slice none 0 0) rfl
      have B3 := blk_put B2 2 (.slice none 0 0) rfl
      have B4 := blk_put B3 3 (.slice none 0 0) rfl
      refine bodyPost_ret (results_ct rfl _ _ w.heap.size 68 #[.bool false, .slice none 0 0, .slice none 0 0, .slice none 0 0] (0, 0) _ rfl B4 Try.underlying68 rfl (by kernel_rfl)) rfl ?_
      exact node_post (n := z68) (Kd.R_nil _ _ _ _ _) (Kd.R_nil _ _ _ _ _) (Kd.R_nil _ _ _ _ _) (four_below w.heap.size (base_below HN.out.bel) (Nat.le_refl _))
theorem readNode_other (k : Nat) (t body : ByteArray) (w : World) (hu : impl_Unsealed.f k t = some (body, true)) (hs : body.size ≤ 140737488351232) (h0 : 0 < body.size) (b0 : Int) (hb0 : ∀ h : 0 < body.size, ((body[0]'h).toNat : Int) = b0) (hb1 : (b0 == 108) = false) (hb2 : (b0 != 108) = true) (hb3 : (b0 != 98) = true) (kn : Nat) (at0 : Int) (bad0 : Bool) (hk : rNum body 1 true 4 = ((kn : Int), at0, bad0)) (hkn : kn ≤ 4) (at_ : Int) (bad : Bool) (keys vals : List ByteArray) (kids : List Int) (hst : nIter false body 40 ⟨at0, bad0, [], [], []⟩ kn = ⟨at_, bad, keys, vals, kids⟩) (n : S68) (ok : Bool) (hres : (bad = false ∧ at_ = (body.size : Int) ∧ nodeOkB false keys vals kids = true ∧ n = ⟨false, keys, vals, kids⟩ ∧ ok = true) ∨ ((bad = true ∨ ¬ at_ = (body.size : Int) ∨ nodeOkB false keys vals kids = false) ∧ n = z68 ∧ ok = false)) :
  Calls Try.prog 30 #[.string t] w (NodePost w n ok) := by
 have HU := Aside0.mk hu
 have HK := Aside0.mk hk
 have HST := Aside0.mk hst
 have HRES := Aside0.mk hres
 obtain ⟨HL0, HL2⟩ := toList_ne body h0
 have HL1 : (!body.toList.isEmpty) = true := by rw [HL2]; rfl
 clear hu hk hst hres
 go_enter Try.func30, Try.ntmps30
 go_wp2_with fail
 ((with_reducible refine (impl_Unsealed.calls k t body true _ HU.out).mono ?_); rintro e w1 ⟨rfl, hb1⟩)
 obtain ⟨hc1, hf1⟩ := bcell hb1
 have hz1 : w.heap.size < w1.heap.size := by have hh := hb1.size; (try simp at hh); omega
 have HB1 := Aside0.mk hb1
 clear hb1
 have HI := Aside0.mk (show NInv (w.alloc (.cells #[.bool false, .slice none 0 0, .slice none 0 0, .slice none 0 0] 68)) ((w1.alloc (.cells #[.bool false, .slice none 0 0, .slice none 0 0, .slice none 0 0] 68)).alloc (.cells #[.string body, .int .i64 1, .bool true] 114)) w1.heap.size (w1.heap.size + 1) 114 body false (.slice none 0 0) (.slice none 0 0) (.slice none 0 0) 1 true [] [] [] from
  ⟨blk_alloc (blk_new w1 _) _, by have z := blk_new (w1.alloc (.cells #[.bool false, .slice none 0 0, .slice none 0 0, .slice none 0 0] 68)) (.cells #[.string body, .int .i64 1, .bool true] 114); simpa using z, by simp; omega, by simp; omega, Kd.R_nil _ _ _ _ _, Kd.R_nil _ _ _ _ _, Kd.R_nil _ _ _ _ _, fun k hk => by simp [Value.ownBlock] at hk, below_alloc (below_alloc HB1.out _) _⟩)
 go_wp2_with fail
 ((with_reducible refine (impl_num_rd HK.out hs HI.out.bR HI.out.hR HI.out.bel).mono ?_); rintro e w2 ⟨rfl, hI2, hb2, hk2⟩)
 have HN0 := Aside0.mk (HI.out.read (by decide) (by decide) (by decide) hI2 hb2 hk2)
 clear HI hI2 hb2 hk2 hc1 hf1
 go_wp2_with fail
 go_loopg [37] kn (fun gg s37 wr => ∃ (kk : Nat) (A1 : Option Addr) (c1 : Nat) (A2 : Option Addr) (c2 : Nat) (A3 : Option Addr) (c3 : Nat), kk ≤ kn ∧ kn - kk ≤ gg ∧ s37 = .int .i64 kk ∧ Aside0 (NInv (w.alloc (.cells #[.bool false, .slice none 0 0, .slice none 0 0, .slice none 0 0] 68)) wr w1.heap.size (w1.heap.size + 1) 114 body false (.slice A1 (nIter false body 40 ⟨at0, bad0, [], [], []⟩ kk).keys.length c1) (.slice A2 (nIter false body 40 ⟨at0, bad0, [], [], []⟩ kk).vals.length c2) (.slice A3 (nIter false body 40 ⟨at0, bad0, [], [], []⟩ kk).kids.length c3) (nIter false body 40 ⟨at0, bad0, [], [], []⟩ kk).at_ (nIter false body 40 ⟨at0, bad0, [], [], []⟩ kk).bad (nIter false body 40 ⟨at0, bad0, [], [], []⟩ kk).keys (nIter false body 40 ⟨at0, bad0, [], [], []⟩ kk).vals (nIter false body 40 ⟨at0, bad0, [], [], []⟩ kk).kids))
 case atStart => exact ⟨0, none, 0, none, 0, none, 0, Nat.zero_le _, by omega, rfl, HN0⟩
 case round =>
  clear HN0
  obtain ⟨kk, A1, c1, A2, c2, A3, c3, hkk, hg, rfl, HN⟩ := hrel
  by_cases hlt : kk < kn
  ·have hltz : (kk : Int) < (kn : Int) := by omega
   have HLEN0 := nIter_len false body 40 ⟨at0, bad0, [], [], []⟩ rfl rfl rfl kk
   have HSTEP := Aside0.mk (show (nIter false body 40 ⟨at0, bad0, [], [], []⟩ (kk + 1)) = nStep false body 40 (nIter false body 40 ⟨at0, bad0, [], [], []⟩ kk) from rfl)
   generalize hsk : nIter false body 40 ⟨at0, bad0, [], [], []⟩ kk = sk at HN HLEN0 HSTEP
   obtain ⟨a1, b1, keys1, vals1, kids1⟩ := sk
   clear hsk
   simp only at HN HLEN0
   obtain ⟨x1, a2, b2, hx⟩ : ∃ x1 a2 b2, rText body a1 b1 = (x1, a2, b2) := ⟨_, _, _, rfl⟩
   have HX := Aside0.mk hx
   have HX1 := Aside0.mk hx
   clear hx
   have HLEN := Aside0.mk (show keys1.length ≤ 4 by omega)
   have HLEV := Aside0.mk (show vals1.length ≤ 4 by omega)
   have HLEK := Aside0.mk (show kids1.length ≤ 4 by omega)
   clear HLEN0
   go_wp2_with fail
   obtain ⟨ks1, hks⟩ : ∃ z, z = keys1 ++ [x1] := ⟨_, rfl⟩
   have HKS1 := Aside0.mk hks
   clear hks
   have hNd := Aside0.mk HN.out.drew
   clear HN
   refine seq_start impl_ReadNode.ok8_0 (S := fun w' => w'.cell? ⟨w1.heap.size, 0, none⟩ = some (.bool false) ∧ w'.cell? ⟨w1.heap.size, 1, none⟩ = some (.slice A1 keys1.length c1) ∧ w'.cell? ⟨w1.heap.size, 2, none⟩ = some (.slice A2 vals1.length c2) ∧ w'.cell? ⟨w1.heap.size, 3, none⟩ = some (.slice A3 kids1.length c3)) (by kernel_rfl) (fun _ _ _ _ h => h) ⟨(blk_cell hNd.out.bN 0).trans rfl, (blk_cell hNd.out.bN 1).trans rfl, (blk_cell hNd.out.bN 2).trans rfl, (blk_cell hNd.out.bN 3).trans rfl⟩ (fun hHeld => ?_)
   generalize wr.drew = wd at hNd hHeld ⊢
   iterate 2 (refine seq_p (v := ?_) (a' := ?_) rfl rfl (Or.inl ⟨by rfl, ?_⟩) ?_ ?_; rotate_left; (· intro w'; go_simp; with_reducible rfl); rotate_left; (· show Act.put _ (some _) _ = _; simp only [Act.put, List.setIfInBounds_toArray, List.set_cons_zero, List.set_cons_succ, i64_w, i32_w]; try rfl))
   (refine seq_t (v := ?_) (a' := ?_) rfl rfl (Or.inl ⟨by rfl, ?_⟩) ?_ ?_; rotate_left; (· rintro w' ⟨s0, s1, s2, s3⟩; go_simp; with_reducible rfl); rotate_left; (· show Act.put _ (some _) _ = _; simp only [Act.put, List.setIfInBounds_toArray, List.set_cons_zero, List.set_cons_succ, i64_w, i32_w]; try rfl))
   refine seq_call rfl rfl Try.func88 (by kernel_rfl) rfl #[.pointer (some ⟨w1.heap.size + 1, 0, none⟩)] (by rfl) rfl (by (try simp only [List.map_toArray, List.map_cons, List.map_nil]); first | done | rfl) ?_
   with_reducible refine (impl_text_rd HX.out hs hNd.out.bR hNd.out.hR hNd.out.bel).mono ?_
   rintro e wc ⟨rfl, hIc, hbc, hkc⟩
   have hNc := Aside0.mk (hNd.out.read (by decide) (by decide) (by decide) hIc hbc hkc)
   clear hNd hIc hbc hkc
   refine ⟨_, rfl, ⟨(blk_cell hNc.out.bN 0).trans rfl, (blk_cell hNc.out.bN 1).trans rfl, (blk_cell hNc.out.bN 2).trans rfl, (blk_cell hNc.out.bN 3).trans rfl⟩, (fun hHeld => ?_)⟩
   refine seq_norm (a' := ?_) ?_ ?_; rotate_left; (· show Act.put _ (some 42) _ = _; simp only [Act.put, List.setIfInBounds_toArray, List.set_cons_zero, List.set_cons_succ, i64_w, i32_w]; try rfl)
   refine seq_e rfl rfl (fun K hK => ?_)
   refine value_ (w1 := ?_) (v := ?_) (by rfl) rfl ?_ ?_
   rotate_left 2
   ·go_simp
    constructor
    ·rfl
    ·rfl
   refine hK.out _ _ ⟨(blk_cell (blk_alloc hNc.out.bN _) 0).trans rfl, (blk_cell (blk_alloc hNc.out.bN _) 1).trans rfl, (blk_cell (blk_alloc hNc.out.bN _) 2).trans rfl, (blk_cell (blk_alloc hNc.out.bN _) 3).trans rfl⟩ (fun hHeld => ?_)
   clear hK K
   refine seq_norm (a' := ?_) ?_ ?_; rotate_left; (· show Act.put _ (some 43) _ = _; simp only [Act.put, List.setIfInBounds_toArray, List.set_cons_zero, List.set_cons_succ, i64_w, i32_w]; try rfl)
   refine seq_e rfl rfl (fun K hK => ?_)
   refine Kd.R_append_step Kd.string (w0 := (w.alloc (.cells #[.bool false, .slice none 0 0, .slice none 0 0, .slice none 0 0] 68))) ((w.alloc (.cells #[.bool false, .slice none 0 0, .slice none 0 0, .slice none 0 0] 68))).heap.size (by rfl) (.tmp 40) (.tmp 43) 22 9 (.string ⟨#[]⟩) 16 rfl Try.underlying22 info9 rfl (by decide) (by omega) (.slice A1 keys1.length c1) keys1 x1 [.string x1] (fun _ => True) (fun _ => False) rfl rfl ?aP (fun _ hk => hk.elim) ?aF ?aO ?aB ?aS ?aL ?_
   (case aP => exact rfl)
   (case aF => exact (fun _ _ => trivial))
   (case aO => exact hNc.out.rk)
   (case aB => exact hNc.out.bel)
   (case aS => exact hNc.out.bel.size)
   (case aL => have := HLEN.out; omega)
   intro va wa ho hb hg hat
   have bNa := Aside0.mk (blk_grown hNc.out.bN hg (Kd.R_ne hNc.out.rk hNc.out.bN (by decide)))
   rw [← HKS1.out] at ho
   obtain ⟨Ao1, co1, eo⟩ := Kd.R_slice ho
   subst eo
   have hNs := Aside0.mk (hNc.out.pushKey (by decide) (by decide) ho hb hg hat)
   clear ho hb hg hat
   refine hK.out _ _ ⟨(blk_cell bNa.out 0).trans rfl, (blk_cell bNa.out 1).trans rfl, (blk_cell bNa.out 2).trans rfl, (blk_cell bNa.out 3).trans rfl⟩ (fun hHeld => ?_)
   clear hK K
   refine seq_norm (a' := ?_) ?_ ?_; rotate_left; (· show Act.put _ (some 44) _ = _; simp only [Act.put, List.setIfInBounds_toArray, List.set_cons_zero, List.set_cons_succ, i64_w, i32_w]; try rfl)
   (refine seq_p (v := ?_) (a' := ?_) rfl rfl (Or.inl ⟨by rfl, ?_⟩) ?_ ?_; rotate_left; (· intro w'; go_simp; with_reducible rfl); rotate_left; (· show Act.put _ (some _) _ = _; simp only [Act.put, List.setIfInBounds_toArray, List.set_cons_zero, List.set_cons_succ, i64_w, i32_w]; try rfl))
   refine seq_l rfl rfl (fun K hK => ?_)
   have hs1 : wa.cell? ⟨w1.heap.size, 1, none⟩ = some (.slice A1 keys1.length c1) := (blk_cell bNa.out 1).trans rfl
   have hf1 := blk_frozen bNa.out 1
   refine skip_ (w1 := ?_) (by rfl) rfl ?_ ?_
   rotate_left
   ·go_simp
    rfl
   refine hK.out _ _ ?_
   clear hK K
   refine seq_done ?_
   clear hNc bNa hs1 hf1 hHeld
   generalize wa.setCell ⟨w1.heap.size, 1, none⟩ _ = w6 at hNs ⊢
   have HN2 := Aside0.mk hNs.out
   clear hNs
   clear HX HLEN
   have hcl : w6.cell? ⟨w1.heap.size, 0, none⟩ = some (.bool false) := (blk_cell HN2.out.bN 0).trans rfl
   obtain ⟨x2, a3, b3, hx⟩ : ∃ x2 a3 b3, rNum body a2 b2 40 = (x2, a3, b3) := ⟨_, _, _, rfl⟩
   have HX := Aside0.mk hx
   have HX2 := Aside0.mk hx
   clear hx
   go_wp2_with fail
   obtain ⟨ks3, hks⟩ : ∃ z, z = kids1 ++ [x2] := ⟨_, rfl⟩
   have HKS3 := Aside0.mk hks
   clear hks
   have hNd := Aside0.mk HN2.out.drew
   clear HN2
   refine seq_start impl_ReadNode.ok11_2 (S := fun w' => w'.cell? ⟨w1.heap.size, 0, none⟩ = some (.bool false) ∧ w'.cell? ⟨w1.heap.size, 1, none⟩ = some (.slice Ao1 ks1.length co1) ∧ w'.cell? ⟨w1.heap.size, 2, none⟩ = some (.slice A2 vals1.length c2) ∧ w'.cell? ⟨w1.heap.size, 3, none⟩ = some (.slice A3 kids1.length c3)) (by kernel_rfl) (fun _ _ _ _ h => h) ⟨(blk_cell hNd.out.bN 0).trans rfl, (blk_cell hNd.out.bN 1).trans rfl, (blk_cell hNd.out.bN 2).trans rfl, (blk_cell hNd.out.bN 3).trans rfl⟩ (fun hHeld => ?_)
   generalize w6.drew = wd at hNd hHeld ⊢
   iterate 2 (refine seq_p (v := ?_) (a' := ?_) rfl rfl (Or.inl ⟨by rfl, ?_⟩) ?_ ?_; rotate_left; (· intro w'; go_simp; with_reducible rfl); rotate_left; (· show Act.put _ (some _) _ = _; simp only [Act.put, List.setIfInBounds_toArray, List.set_cons_zero, List.set_cons_succ, i64_w, i32_w]; try rfl))
   (refine seq_t (v := ?_) (a' := ?_) rfl rfl (Or.inl ⟨by rfl, ?_⟩) ?_ ?_; rotate_left; (· rintro w' ⟨s0, s1, s2, s3⟩; go_simp; with_reducible rfl); rotate_left; (· show Act.put _ (some _) _ = _; simp only [Act.put, List.setIfInBounds_toArray, List.set_cons_zero, List.set_cons_succ, i64_w, i32_w]; try rfl))
   refine seq_call rfl rfl Try.func70 (by kernel_rfl) rfl #[.pointer (some ⟨w1.heap.size + 1, 0, none⟩), .int .i64 40] (by rfl) rfl (by (try simp only [List.map_toArray, List.map_cons, List.map_nil]); first | done | rfl) ?_
   with_reducible refine (impl_num_rd HX.out hs hNd.out.bR hNd.out.hR hNd.out.bel).mono ?_
   rintro e wc ⟨rfl, hIc, hbc, hkc⟩
   have hNc := Aside0.mk (hNd.out.read (by decide) (by decide) (by decide) hIc hbc hkc)
   clear hNd hIc hbc hkc
   refine ⟨_, rfl, ⟨(blk_cell hNc.out.bN 0).trans rfl, (blk_cell hNc.out.bN 1).trans rfl, (blk_cell hNc.out.bN 2).trans rfl, (blk_cell hNc.out.bN 3).trans rfl⟩, (fun hHeld => ?_)⟩
   refine seq_norm (a' := ?_) ?_ ?_; rotate_left; (· show Act.put _ (some 58) _ = _; simp only [Act.put, List.setIfInBounds_toArray, List.set_cons_zero, List.set_cons_succ, i64_w, i32_w]; try rfl)
   refine seq_e rfl rfl (fun K hK => ?_)
   refine value_ (w1 := ?_) (v := ?_) (by rfl) rfl ?_ ?_
   rotate_left 2
   ·go_simp
    constructor
    ·rfl
    ·rfl
   refine hK.out _ _ ⟨(blk_cell (blk_alloc hNc.out.bN _) 0).trans rfl, (blk_cell (blk_alloc hNc.out.bN _) 1).trans rfl, (blk_cell (blk_alloc hNc.out.bN _) 2).trans rfl, (blk_cell (blk_alloc hNc.out.bN _) 3).trans rfl⟩ (fun hHeld => ?_)
   clear hK K
   refine seq_norm (a' := ?_) ?_ ?_; rotate_left; (· show Act.put _ (some 59) _ = _; simp only [Act.put, List.setIfInBounds_toArray, List.set_cons_zero, List.set_cons_succ, i64_w, i32_w]; try rfl)
   refine seq_e rfl rfl (fun K hK => ?_)
   refine Kd.R_append_step (Kd.int .i64) (w0 := (w.alloc (.cells #[.bool false, .slice none 0 0, .slice none 0 0, .slice none 0 0] 68))) ((w.alloc (.cells #[.bool false, .slice none 0 0, .slice none 0 0, .slice none 0 0] 68))).heap.size (by rfl) (.tmp 56) (.tmp 59) 30 3 (.int .i64 0) 8 rfl Try.underlying30 info3_ rfl (by decide) (by omega) (.slice A3 kids1.length c3) kids1 x2 [.int .i64 x2] (fun _ => True) (fun _ => False) rfl rfl ?aP (fun _ hk => hk.elim) ?aF ?aO ?aB ?aS ?aL ?_
   (case aP => exact rfl)
   (case aF => exact (fun _ _ => trivial))
   (case aO => exact hNc.out.ri)
   (case aB => exact hNc.out.bel)
   (case aS => exact hNc.out.bel.size)
   (case aL => have := HLEK.out; omega)
   intro va wa ho hb hg hat
   have bNa := Aside0.mk (blk_grown hNc.out.bN hg (Kd.R_ne hNc.out.ri hNc.out.bN (by decide)))
   rw [← HKS3.out] at ho
   obtain ⟨Ao3, co3, eo⟩ := Kd.R_slice ho
   subst eo
   have hNs := Aside0.mk (hNc.out.pushKid (by decide) (by decide) ho hb hg)
   clear ho hb hg hat
   refine hK.out _ _ ⟨(blk_cell bNa.out 0).trans rfl, (blk_cell bNa.out 1).trans rfl, (blk_cell bNa.out 2).trans rfl, (blk_cell bNa.out 3).trans rfl⟩ (fun hHeld => ?_)
   clear hK K
   refine seq_norm (a' := ?_) ?_ ?_; rotate_left; (· show Act.put _ (some 60) _ = _; simp only [Act.put, List.setIfInBounds_toArray, List.set_cons_zero, List.set_cons_succ, i64_w, i32_w]; try rfl)
   (refine seq_p (v := ?_) (a' := ?_) rfl rfl (Or.inl ⟨by rfl, ?_⟩) ?_ ?_; rotate_left; (· intro w'; go_simp; with_reducible rfl); rotate_left; (· show Act.put _ (some _) _ = _; simp only [Act.put, List.setIfInBounds_toArray, List.set_cons_zero, List.set_cons_succ, i64_w, i32_w]; try rfl))
   refine seq_l rfl rfl (fun K hK => ?_)
   have hs1 : wa.cell? ⟨w1.heap.size, 3, none⟩ = some (.slice A3 kids1.length c3) := (blk_cell bNa.out 3).trans rfl
   have hf1 := blk_frozen bNa.out 3
   refine skip_ (w1 := ?_) (by rfl) rfl ?_ ?_
   rotate_left
   ·go_simp
    rfl
   refine hK.out _ _ ?_
   clear hK K
   refine seq_done ?_
   clear hNc bNa hs1 hf1 hHeld
   generalize wa.setCell ⟨w1.heap.size, 3, none⟩ _ = w7 at hNs ⊢
   have HN3 := Aside0.mk hNs.out
   clear hNs
   clear HX
   go_wp2
   have hw : wrap64 ((kk : Int) + 1) = ((kk + 1 : Nat) : Int) := by unfold wrap64; omega
   have hfin : (nIter false body 40 ⟨at0, bad0, [], [], []⟩ (kk + 1)) = ⟨a3, b3, ks1, vals1, ks3⟩ := by rw [HSTEP.out]; simp [nStep, HX1.out, HX2.out, HKS1.out, HKS3.out]
   have HW := Aside0.mk hw
   have HF := Aside0.mk hfin
   clear hw hfin
   go_roundg (kn - (kk + 1))
   case measure => omega
   case rel => exact ⟨kk + 1, Ao1, co1, A2, c2, Ao3, co3, by omega, by omega, by first | rfl | exact congrArg (Value.int .i64) HW.out, by rw [HF.out]; exact HN3⟩
  ·have hltz : ¬ (kk : Int) < (kn : Int) := by omega
   have : kk = kn := by omega
   subst this
   rw [HST.out] at HN
   simp only at HN
   have hr0 : wr.cell? ⟨w1.heap.size + 1, 1, none⟩ = some (.int .i64 at_) := (blk_cell HN.out.bR 1).trans rfl
   have hn0 : wr.cell? ⟨w1.heap.size, 0, none⟩ = some (.bool false) := (blk_cell HN.out.bN 0).trans rfl
   have hn1 : wr.cell? ⟨w1.heap.size, 1, none⟩ = some (.slice A1 keys.length c1) := (blk_cell HN.out.bN 1).trans rfl
   have hn2 : wr.cell? ⟨w1.heap.size, 2, none⟩ = some (.slice A2 vals.length c2) := (blk_cell HN.out.bN 2).trans rfl
   have hn3 : wr.cell? ⟨w1.heap.size, 3, none⟩ = some (.slice A3 kids.length c3) := (blk_cell HN.out.bN 3).trans rfl
   have hbo := Aside0.mk (HN.out.bel.block w.heap.size (by simp))
   have BO := Aside0.mk (hbo.out.trans (blk_new w _))
   clear hbo
   have hfo := blk_frozen BO.out
   have hob0 : wr.cell? ⟨w.heap.size, 0, none⟩ = some (.bool false) := (blk_cell BO.out 0).trans rfl
   have hob1 : wr.cell? ⟨w.heap.size, 1, none⟩ = some (.slice none 0 0) := (blk_cell BO.out 1).trans rfl
   have hob2 : wr.cell? ⟨w.heap.size, 2, none⟩ = some (.slice none 0 0) := (blk_cell BO.out 2).trans rfl
   have hob3 : wr.cell? ⟨w.heap.size, 3, none⟩ = some (.slice none 0 0) := (blk_cell BO.out 3).trans rfl
   have hlo := blk_lt BO.out
   rcases HRES.out with ⟨e1, e2, e3, e4, e5⟩ | ⟨e1, e4, e5⟩
   ·subst e1 e4 e5
    have hr1 : wr.cell? ⟨w1.heap.size + 1, 2, none⟩ = some (.bool false) := (blk_cell HN.out.bR 2).trans rfl
    have hq := Aside0.mk e2
    have hq1 : (at_ != (body.size : Int)) = false := by rw [e2]; simp
    have HOK := Aside0.mk (show impl_NodeOk.f false keys vals kids = some true from congrArg some e3)
    have hlN := blk_lt HN.out.bN
    clear e2 e3
    go_wp2_with fail
    ((with_reducible refine (impl_NodeOk.calls false A1 c1 keys A2 c2 vals A3 c3 kids true _ (R_seen HN.out.rk).2 (R_seen HN.out.rk).1 (R_seen HN.out.rv).2 (R_seen HN.out.rv).1 (R_seen HN.out.ri).2 (R_seen HN.out.ri).1 HOK.out).mono ?_); rintro e w5 ⟨rfl, hb5⟩)
    obtain ⟨hc5, hf5⟩ := bcell hb5
    have BO5 := Aside0.mk (blk_below BO.out hb5)
    have HN5 := Aside0.mk (HN.out.below hb5)
    clear hb5
    go_wp2
    have B1 := blk_put BO5.out 0 (.bool false) rfl
    have B2 := blk_put B1 1 (.slice A1 keys.length c1) rfl
    have B3 := blk_put B2 2 (.slice A2 vals.length c2) rfl
    have B4 := blk_put B3 3 (.slice A3 kids.length c3) rfl
    refine bodyPost_ret (results_ct rfl _ _ w.heap.size 68 #[.bool false, .slice A1 keys.length c1, .slice A2 vals.length c2, .slice A3 kids.length c3] (0, 0) _ rfl B4 Try.underlying68 rfl (by kernel_rfl)) rfl ?_
    exact node_post (n := ⟨false, keys, vals, kids⟩) (Kd.R_lower (four_set HN5.out.rk BO5.out B1 B2 B3 (by decide)) (by simp)) (Kd.R_lower (four_set HN5.out.rv BO5.out B1 B2 B3 (by decide)) (by simp)) (Kd.R_lower (four_set HN5.out.ri BO5.out B1 B2 B3 (by decide)) (by simp)) (four_below w.heap.size (base_below HN5.out.bel) (Nat.le_refl _))
   ·subst e4 e5
    cases hbad : bad with
    | true =>
     subst hbad
     have hr1 : wr.cell? ⟨w1.heap.size + 1, 2, none⟩ = some (.bool true) := (blk_cell HN.out.bR 2).trans rfl
     go_wp2
     have B1 := blk_put BO.out 0 (.bool false) rfl
     have B2 := blk_put B1 1 (.slice none 0 0) rfl
     have B3 := blk_put B2 2 (.slice none 0 0) rfl
     have B4 := blk_put B3 3 (.slice none 0 0) rfl
     refine bodyPost_ret (results_ct rfl _ _ w.heap.size 68 #[.bool false, .slice none 0 0, .slice none 0 0, .slice none 0 0] (0, 0) _ rfl B4 Try.underlying68 rfl (by kernel_rfl)) rfl ?_
     exact node_post (n := z68) (Kd.R_nil _ _ _ _ _) (Kd.R_nil _ _ _ _ _) (Kd.R_nil _ _ _ _ _) (four_below w.heap.size (base_below HN.out.bel) (Nat.le_refl _))
    | false =>
     subst hbad
     have hr1 : wr.cell? ⟨w1.heap.size + 1, 2, none⟩ = some (.bool false) := (blk_cell HN.out.bR 2).trans rfl
     by_cases hq : at_ = (body.size : Int)
     ·have hq1 : (at_ != (body.size : Int)) = false := by rw [hq]; simp
      have e3 : nodeOkB false keys vals kids = false := by
       rcases e1 with e | e | e
       ·cases e
       ·exact absurd hq e
       ·exact e
      have HQ := Aside0.mk hq
      have HOK := Aside0.mk (show impl_NodeOk.f false keys vals kids = some false from congrArg some e3)
      have hlN := blk_lt HN.out.bN
      clear e1 e3 hq
      go_wp2_with fail
      ((with_reducible refine (impl_NodeOk.calls false A1 c1 keys A2 c2 vals A3 c3 kids false _ (R_seen HN.out.rk).2 (R_seen HN.out.rk).1 (R_seen HN.out.rv).2 (R_seen HN.out.rv).1 (R_seen HN.out.ri).2 (R_seen HN.out.ri).1 HOK.out).mono ?_); rintro e w5 ⟨rfl, hb5⟩)
      obtain ⟨hc5, hf5⟩ := bcell hb5
      have BO5 := Aside0.mk (blk_below BO.out hb5)
      have HN5 := Aside0.mk (HN.out.below hb5)
      clear hb5
      go_wp2
      have B1 := blk_put BO5.out 0 (.bool false) rfl
      have B2 := blk_put B1 1 (.slice none 0 0) rfl
      have B3 := blk_put B2 2 (.slice none 0 0) rfl
      have B4 := blk_put B3 3 (.slice none 0 0) rfl
      refine bodyPost_ret (results_ct rfl _ _ w.heap.size 68 #[.bool false, .slice none 0 0, .slice none 0 0, .slice none 0 0] (0, 0) _ rfl B4 Try.underlying68 rfl (by kernel_rfl)) rfl ?_
      exact node_post (n := z68) (Kd.R_nil _ _ _ _ _) (Kd.R_nil _ _ _ _ _) (Kd.R_nil _ _ _ _ _) (four_below w.heap.size (base_below HN5.out.bel) (Nat.le_refl _))
     ·have hq1 : (at_ != (body.size : Int)) = true := by simpa using hq
      have hq2 : decide (at_ = (body.size : Int)) = false := decide_eq_false hq
      have HQ := Aside0.mk hq
      clear hq e1
      go_wp2
      have B1 := blk_put BO.out 0 (.bool false) rfl
      have B2 := blk_put B1 1 (.slice none 0 0) rfl
      have B3 := blk_put B2 2 (.slice none 0 0) rfl
      have B4 := blk_put B3 3 (.slice none 0 0) rfl
      refine bodyPost_ret (results_ct rfl _ _ w.heap.size 68 #[.bool false, .slice none 0 0, .slice none 0 0, .slice none 0 0] (0, 0) _ rfl B4 Try.underlying68 rfl (by kernel_rfl)) rfl ?_
      exact node_post (n := z68) (Kd.R_nil _ _ _ _ _) (Kd.R_nil _ _ _ _ _) (Kd.R_nil _ _ _ _ _) (four_below w.heap.size (base_below HN.out.bel) (Nat.le_refl _))
theorem readNode_no (k : Nat) (t body : ByteArray) (w : World) (hu : impl_Unsealed.f k t = some (body, false))  :
  Calls Try.prog 30 #[.string t] w (NodePost w z68 false) := by
 have HU := Aside0.mk hu
 clear hu
 go_enter Try.func30, Try.ntmps30
 go_wp2_with fail
 ((with_reducible refine (impl_Unsealed.calls k t body false _ HU.out).mono ?_); rintro e w1 ⟨rfl, hb1⟩)
 obtain ⟨hc1, hf1⟩ := bcell hb1
 have hz1 : w.heap.size < w1.heap.size := by have hh := hb1.size; (try simp at hh); omega
 have HB1 := Aside0.mk hb1
 have BO := Aside0.mk (blk_below (blk_new w (.cells #[.bool false, .slice none 0 0, .slice none 0 0, .slice none 0 0] 68)) hb1)
 have hob0 : w1.cell? ⟨w.heap.size, 0, none⟩ = some (.bool false) := (blk_cell BO.out 0).trans rfl
 have hob1 : w1.cell? ⟨w.heap.size, 1, none⟩ = some (.slice none 0 0) := (blk_cell BO.out 1).trans rfl
 have hob2 : w1.cell? ⟨w.heap.size, 2, none⟩ = some (.slice none 0 0) := (blk_cell BO.out 2).trans rfl
 have hob3 : w1.cell? ⟨w.heap.size, 3, none⟩ = some (.slice none 0 0) := (blk_cell BO.out 3).trans rfl
 have hfo := blk_frozen BO.out
 clear hb1 hc1 hf1
 go_wp2
 have B1 := blk_put BO.out 0 (.bool false) rfl
 have B2 := blk_put B1 1 (.slice none 0 0) rfl
 have B3 := blk_put B2 2 (.slice none 0 0) rfl
 have B4 := blk_put B3 3 (.slice none 0 0) rfl
 refine bodyPost_ret (results_ct rfl _ _ w.heap.size 68 #[.bool false, .slice none 0 0, .slice none 0 0, .slice none 0 0] (0, 0) _ rfl B4 Try.underlying68 rfl (by kernel_rfl)) rfl ?_
 exact node_post (n := z68) (Kd.R_nil _ _ _ _ _) (Kd.R_nil _ _ _ _ _) (Kd.R_nil _ _ _ _ _) (four_below w.heap.size (base_below HB1.out) (Nat.le_refl _))
theorem readNode_empty (k : Nat) (t body : ByteArray) (w : World) (hu : impl_Unsealed.f k t = some (body, true)) (h0 : body.size = 0) :
  Calls Try.prog 30 #[.string t] w (NodePost w z68 false) := by
 have HU := Aside0.mk hu
 have HE : body.toList = [] := by
  have hl : body.toList.length = body.size := by rw [Lib.toList_data, Array.length_toList]; rfl
  rw [h0] at hl
  exact List.eq_nil_of_length_eq_zero hl
 have HE1 : body.toList.isEmpty = true := by rw [HE]; rfl
 have HE2 : (!body.toList.isEmpty) = false := by rw [HE1]; rfl
 clear hu
 go_enter Try.func30, Try.ntmps30
 go_wp2_with fail
 ((with_reducible refine (impl_Unsealed.calls k t body true _ HU.out).mono ?_); rintro e w1 ⟨rfl, hb1⟩)
 obtain ⟨hc1, hf1⟩ := bcell hb1
 have hz1 : w.heap.size < w1.heap.size := by have hh := hb1.size; (try simp at hh); omega
 have HB1 := Aside0.mk hb1
 have BO := Aside0.mk (blk_below (blk_new w (.cells #[.bool false, .slice none 0 0, .slice none 0 0, .slice none 0 0] 68)) hb1)
 have hob0 : w1.cell? ⟨w.heap.size, 0, none⟩ = some (.bool false) := (blk_cell BO.out 0).trans rfl
 have hob1 : w1.cell? ⟨w.heap.size, 1, none⟩ = some (.slice none 0 0) := (blk_cell BO.out 1).trans rfl
 have hob2 : w1.cell? ⟨w.heap.size, 2, none⟩ = some (.slice none 0 0) := (blk_cell BO.out 2).trans rfl
 have hob3 : w1.cell? ⟨w.heap.size, 3, none⟩ = some (.slice none 0 0) := (blk_cell BO.out 3).trans rfl
 have hfo := blk_frozen BO.out
 clear hb1 hc1 hf1
 go_wp2
 have B1 := blk_put BO.out 0 (.bool false) rfl
 have B2 := blk_put B1 1 (.slice none 0 0) rfl
 have B3 := blk_put B2 2 (.slice none 0 0) rfl
 have B4 := blk_put B3 3 (.slice none 0 0) rfl
 refine bodyPost_ret (results_ct rfl _ _ w.heap.size 68 #[.bool false, .slice none 0 0, .slice none 0 0, .slice none 0 0] (0, 0) _ rfl B4 Try.underlying68 rfl (by kernel_rfl)) rfl ?_
 exact node_post (n := z68) (Kd.R_nil _ _ _ _ _) (Kd.R_nil _ _ _ _ _) (Kd.R_nil _ _ _ _ _) (four_below w.heap.size (base_below HB1.out) (Nat.le_refl _))
end Go.Proofs.Ytapholbdjccapaa.PFnExactTreeOk
