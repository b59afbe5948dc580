import Derived.Test.YtonhdiemjgdcnaaRE5
set_option maxHeartbeats 64000000
set_option maxRecDepth 100000
set_option linter.unusedVariables false
set_option linter.unusedSimpArgs false
namespace Go.Proofs.Ytonhdiemjgdcnaa.PFnExactGivePage
open Go.RowKit Go.Proofs.YtonhdiemjgdcnaaW.PrintWords Go.Proofs.YtonhdiemjgdcnaaW.PrintLast Go.Proofs.YtonhdiemjgdcnaaW.PrintMore
attribute [local go_sem] max2_int min2_int max_two min_two max_three min_three max_four min_four
structure Fct where
 lo : Nat
 hi : Nat
 P : World → Prop
 mv : ∀ {W W' : World}, (∀ k, lo ≤ k → k < hi → W'.heap[k]? = W.heap[k]?) → P W → P W'
def Iv (lo hi : Nat) : Nat → Prop := fun k => lo ≤ k ∧ k < hi
def Fct.box (g : Nat) (cs : List Value) (t : TypeId) : Fct := ⟨g, g + 1, fun W => W.heap[g]? = some (.cells cs.toArray t (0, 0)), fun h hp => (h g (Nat.le_refl _) (Nat.lt_succ_self _)).trans hp⟩
def Fct.made {α : Type} (d : Kd α) (base lo hi : Nat) (ok : Nat → Prop) (x : α) (cs : List Value) : Fct :=
 ⟨lo, hi, fun W => d.M W base (fun k => ok k ∧ Iv lo hi k) x cs, fun h hp => d.M_move (fun k hk => h k hk.2.1 hk.2.2) hp⟩
def All (W : World) (top : Nat) : List Fct → Prop
 | [] => True
 | f :: fs => (f.hi ≤ top ∧ f.P W) ∧ All W top fs
structure Env (w0 W : World) (top : Nat) (fs : List Fct) : Prop where
 below : Below w0.heap.size w0 W
 le : top ≤ W.heap.size
 ge : w0.heap.size ≤ top
 all : All W top fs
def OffA (g : Nat) : List Fct → Prop
 | [] => True
 | f :: fs => (g < f.lo ∨ f.hi ≤ g) ∧ OffA g fs
def Off (g : Nat) : List Fct → Nat → Prop
 | [], _ => True
 | _ :: fs, 0 => OffA g fs
 | f :: fs, n + 1 => (g < f.lo ∨ f.hi ≤ g) ∧ Off g fs n
section
variable {w0 W W' : World} {top top' : Nat} {fs : List Fct}
theorem All.step (hk : ∀ k, k < top → W'.heap[k]? = W.heap[k]?) (ht : top ≤ top') : ∀ {fs : List Fct}, All W top fs → All W' top' fs
 | [], _ => trivial
 | f :: _, ⟨⟨h1, h2⟩, h3⟩ => ⟨⟨Nat.le_trans h1 ht, f.mv (fun k _ h => hk k (Nat.lt_of_lt_of_le h h1)) h2⟩, All.step hk ht h3⟩
theorem All.offA {g : Nat} (hk : ∀ k, k ≠ g → W'.heap[k]? = W.heap[k]?) : ∀ {fs : List Fct}, All W top fs → OffA g fs → All W' top fs
 | [], _, _ => trivial
 | f :: _, ⟨⟨h1, h2⟩, h3⟩, ⟨h4, h5⟩ => ⟨⟨h1, f.mv (fun k h6 h7 => hk k (by rintro rfl; omega)) h2⟩, All.offA hk h3 h5⟩
theorem All.off {g : Nat} (hk : ∀ k, k ≠ g → W'.heap[k]? = W.heap[k]?) {f' : Fct} (hf : f'.P W') (hh : ∀ f : Fct, f.hi ≤ top → f.lo ≤ g → g < f.hi → True) : ∀ {fs : List Fct} (i : Nat), f'.hi ≤ top → All W top fs → Off g fs i → All W' top (fs.set i f')
 | [], i, _, _, _ => by cases i <;> exact trivial
 | _ :: _, 0, ht, ⟨_, h3⟩, h5 => ⟨⟨ht, hf⟩, All.offA hk h3 h5⟩
 | f :: _, i + 1, ht, ⟨⟨h1, h2⟩, h3⟩, ⟨h4, h5⟩ => ⟨⟨h1, f.mv (fun k h6 h7 => hk k (by rintro rfl; omega)) h2⟩, All.off hk hf hh i ht h3 h5⟩
theorem All.get : ∀ {fs : List Fct} (i : Nat) {f : Fct}, All W top fs → fs[i]? = some f → f.hi ≤ top ∧ f.P W
 | [], i, _, _, h => by simp at h
 | f :: _, 0, _, ⟨h1, _⟩, h => by simp at h; subst h; exact h1
 | _ :: _, i + 1, _, ⟨_, h3⟩, h => All.get i h3 (by simpa using h)
theorem Env.start (w : World) : Env w w w.heap.size [] := ⟨Below.refl _ _, Nat.le_refl _, Nat.le_refl _, trivial⟩
theorem Env.get (E : Env w0 W top fs) (i : Nat) {f : Fct} (h : fs[i]? = some f) : f.P W := (All.get i E.all h).2
theorem Env.box (E : Env w0 W top fs) (i : Nat) {g : Nat} {cs : List Value} {t : TypeId} (h : fs[i]? = some (Fct.box g cs t)) : W.heap[g]? = some (.cells cs.toArray t (0, 0)) := E.get i h
theorem Env.made (E : Env w0 W top fs) (i : Nat) {α : Type} {d : Kd α} {base lo hi : Nat} {ok : Nat → Prop} {x : α} {cs : List Value} (h : fs[i]? = some (Fct.made d base lo hi ok x cs)) : d.M W base (fun k => ok k ∧ Iv lo hi k) x cs := E.get i h
theorem Env.mk_ (E : Env w0 W top fs) (i : Nat) {α : Type} {d : Kd α} {base lo hi : Nat} {ok : Nat → Prop} {x : α} {cs : List Value} (h : fs[i]? = some (Fct.made d base lo hi ok x cs)) : d.K W x cs := d.K_of_M (E.made i h)
theorem Env.K (E : Env w0 W top fs) {α : Type} {d : Kd α} {x : α} {cs : List Value} (h : d.K w0 x cs) : d.K W x cs := d.K_below E.below h
theorem Env.alloc (E : Env w0 W top fs) (cs : List Value) (t : TypeId) {g : Nat} (hg : W.heap.size = g) : Env w0 (W.alloc (.cells cs.toArray t)) (g + 1) (Fct.box g cs t :: fs) := by
 subst hg
 refine ⟨below_alloc E.below _, by simp, Nat.le_succ_of_le E.below.size, ⟨Nat.le_refl _, blk_new W _⟩, All.step (fun k h => (below_alloc (Below.refl W.heap.size W) (.cells cs.toArray t)).block k (Nat.lt_of_lt_of_le h E.le)) (Nat.le_succ_of_le E.le) E.all⟩
theorem Env.call (E : Env w0 W top fs) (hb : Below W.heap.size W W') : Env w0 W' top fs :=
 ⟨below_step E.below hb, Nat.le_trans E.le hb.size, E.ge, All.step (fun k h => hb.block k (Nat.lt_of_lt_of_le h E.le)) (Nat.le_refl _) E.all⟩
theorem Env.drew (E : Env w0 W top fs) : Env w0 W.drew top fs := E.call (Below.refl W.heap.size W).drew
theorem Env.made_ (E : Env w0 W top fs) {α : Type} {d : Kd α} {x : α} {cs : List Value} (M : d.M W' W.heap.size (Fr W W') x cs) (hb : Below W.heap.size W W') : ∃ n m, (top ≤ n ∧ n ≤ m) ∧ Env w0 W' m (Fct.made d w0.heap.size n m (fun _ => True) x cs :: fs) :=
 ⟨W.heap.size, W'.heap.size, ⟨E.le, hb.size⟩, below_step E.below hb, Nat.le_refl _, Nat.le_trans E.below.size hb.size, ⟨Nat.le_refl _, d.M_lower E.below.size (d.M_mono (fun k hk => ⟨trivial, hk⟩) M)⟩, All.step (fun k h => hb.block k (Nat.lt_of_lt_of_le h E.le)) (Nat.le_trans E.le hb.size) E.all⟩
theorem Env.put (E : Env w0 W top fs) (i : Nat) {g : Nat} {new : List Value} {t : TypeId} (hp : Put1 W W' g) (hn : W'.heap[g]? = some (.cells new.toArray t (0, 0))) (hg : w0.heap.size ≤ g) (ht : g + 1 ≤ top) (ho : Off g fs i) : Env w0 W' top (fs.set i (Fct.box g new t)) := by
 have hk : ∀ k, k ≠ g → W'.heap[k]? = W.heap[k]? := by
  intro k hk
  by_cases hlt : k < W.heap.size
  ·exact hp.kept.2 k hlt hk
  ·rw [Array.getElem?_eq_none (show W'.heap.size ≤ k by rw [hp.size]; omega), Array.getElem?_eq_none (show W.heap.size ≤ k by omega)]
 exact ⟨hp.below w0 hg E.below, by rw [hp.size]; exact E.le, E.ge, All.off hk hn (fun _ _ _ _ => trivial) i ht E.all ho⟩
theorem Env.add (E : Env w0 W top fs) (f : Fct) (h1 : f.hi ≤ top) (h2 : f.P W) : Env w0 W top (f :: fs) := ⟨E.below, E.le, E.ge, ⟨h1, h2⟩, E.all⟩
end
section
variable {w0 W W' : World} {top : Nat} {fs : List Fct} {p : Prop}
theorem ones_K {α : Type} {d : Kd α} {w : World} {x : α} {cs : List Value} (h : d.K w x cs) : ∀ v ∈ cs, v.oneCell' = true := d.K_one h
theorem Env.made4 (E : Env w0 W top fs) (O : p) {α : Type} {d : Kd α} {x : α} {cs : List Value} (z : Nat) (hz : d.sz = z) (M : d.M W' W.heap.size (Fr W W') x cs) (hb : Below W.heap.size W W') : ∃ n m, Aside0 (cs.length = z) ∧ Aside0 (∀ v ∈ cs, v.oneCell' = true) ∧ Aside0 ((top ≤ n ∧ n ≤ m) ∧ p) ∧ Aside0 (Env w0 W' m (Fct.made d w0.heap.size n m (fun _ => True) x cs :: fs)) := by
 obtain ⟨n, m, h1, h2⟩ := E.made_ M hb
 exact ⟨n, m, ⟨(d.K_len (d.K_of_M M)).trans hz⟩, ⟨ones_K (d.K_of_M M)⟩, ⟨h1, O⟩, ⟨h2⟩⟩
theorem Env.put2 (E : Env w0 W top fs) (i : Nat) {g : Nat} {new : List Value} {t : TypeId} (hp : Put1 W W' g) (hn : W'.heap[g]? = some (.cells new.toArray t (0, 0))) (ho : w0.heap.size ≤ g ∧ g + 1 ≤ top ∧ Off g fs i) : Aside0 (Env w0 W' top (fs.set i (Fct.box g new t))) := ⟨E.put i hp hn ho.1 ho.2.1 ho.2.2⟩
theorem Env.to (E : Env w0 W top fs) (h : W = W') : Aside0 (Env w0 W' top fs) := ⟨h ▸ E⟩
end
theorem ones_app {a b : List Value} (ha : ∀ v ∈ a, v.oneCell' = true) (hb : ∀ v ∈ b, v.oneCell' = true) : ∀ v ∈ a ++ b, v.oneCell' = true := fun v hv => (List.mem_append.1 hv).elim (ha v) (hb v)
theorem ones1 {a : Value} (h : a.oneCell' = true) : ∀ v ∈ [a], v.oneCell' = true := fun v hv => by rw [List.mem_singleton.1 hv]; exact h
theorem onesC {a : Value} {l : List Value} (h : a.oneCell' = true) (hl : ∀ v ∈ l, v.oneCell' = true) : ∀ v ∈ a :: l, v.oneCell' = true := fun v hv => (List.mem_cons.1 hv).elim (fun e => by rw [e]; exact h) (hl v)
theorem onesN : ∀ v ∈ ([] : List Value), v.oneCell' = true := fun v hv => by cases hv
theorem lump_ (l : List Value) (n : Nat) (h : l.length = n) (ho : ∀ v ∈ l, v.oneCell' = true) : ∃ c, Aside0 (c = l) ∧ Aside0 (c.length = n) ∧ Aside0 (∀ v ∈ c, v.oneCell' = true) := ⟨l, ⟨rfl⟩, ⟨h⟩, ⟨ho⟩⟩
theorem s_A {α : Type _} (l : List α) (i : Nat) (a : α) : l.toArray.setIfInBounds i a = (l.set i a).toArray := List.setIfInBounds_toArray l i a
theorem s_0 {α : Type _} (x y : α) (xs : List α) : (x :: xs).set 0 y = y :: xs := rfl
theorem s_1 {α : Type _} (x y : α) (i : Nat) (xs : List α) : (x :: xs).set (i + 1) y = x :: xs.set i y := rfl
theorem comb {α β : Type} {a : Kd α} {b : Kd β} {W : World} {base : Nat} {p q : Nat → Prop} {x : α} {y : β} {c0 c1 : List Value} (ha : a.M W base p x c0) (hb : b.M W base q y c1) (hd : ∀ k, p k → ¬ q k) : (Own.apair a b).M W base (fun k => p k ∨ q k) (x, y) (c0 ++ c1) :=
 Own.apair_mk ha hb (fun _ h => .inl h) (fun _ h => .inr h) hd
theorem Mint {W : World} {base : Nat} {n : Int} : (Kd.int .i64).M W base (fun _ => False) n [.int .i64 n] := rfl
theorem fresh {α : Type} {d : Kd α} {w W : World} {base : Nat} {p : Nat → Prop} {x : α} {cs : List Value} (h : d.M W base p x cs) (hb : w.heap.size ≤ base) : d.M W w.heap.size (Fr w W) x cs :=
 d.M_mono (fun k hk => ⟨hk.2.1, hk.2.2.1⟩) (d.M_bound (d.M_lower hb h))
theorem aA {α : Type} (x y z : List α) : x ++ y ++ z = x ++ (y ++ z) := List.append_assoc x y z
theorem aN {α : Type} (x : List α) : [] ++ x = x := rfl
theorem aL {α : Type} (x : List α) : x ++ [] = x := List.append_nil x
end Go.Proofs.Ytonhdiemjgdcnaa.PFnExactGivePage
namespace Go.Proofs.YtonhdiemjgdcnaaW.PrintLast
open Go.Proofs.YtonhdiemjgdcnaaW.PrintWords (Aside0)
inductive Tre where
 | d
 | p (i : Nat) (r : Tre) | t (i : Nat) (r : Tre) | e (i : Nat) (r : Tre) | l (i : Nat) (r : Tre)
 | two (i j : Nat) (ri rj : Tre)
 | three (i j k : Nat) (ri rj rk : Tre)
 | four (i j k m : Nat) (ri rj rk rm : Tre)
section
variable {P : Program} {ops : Array Oper} {Q : Exit → Act → World → Prop} {S : World → Prop} {ds : List Nat} {T : Bool × List (List Nat × List Nat)} {B : List Nat} {N : Option Tmp} {o : Oper} {v : Value} {a : Act} {w : World} {i j : Nat} {r ri rj : Tre}
def walkT (T : Bool × List (List Nat × List Nat)) (B ds : List Nat) : Nat → Bool → List Bool → Tre → Bool
 | _, _, l, .d => readyT T.2 l == []
 | n + 1, k, l, .p i r => (T.1 && freeT T.2 l i && readyAt T.2 l i) && walkT T B ds n k (l.set i true) r
 | n + 1, k, l, .t i r => (k && takeW T B ds l (l.set i true) i) && walkT T B ds n k (l.set i true) r
 | n + 1, _, l, .e i r => (readyT T.2 l == [i] && !ds.contains i) && walkT T B ds n true (l.set i true) r
 | n + 1, _, l, .l i r => (readyT T.2 l == [i] && ds.contains i) && walkT T B ds n false (l.set i true) r
 | n + 1, _, l, .two i j ri rj => (readyT T.2 l == [i, j] && !ds.contains i && !ds.contains j) && walkT T B ds n true (l.set i true) ri && walkT T B ds n true (l.set j true) rj
 | n + 1, _, l, .three i j k ri rj rk => (readyT T.2 l == [i, j, k] && !ds.contains i && !ds.contains j && !ds.contains k) && walkT T B ds n true (l.set i true) ri && walkT T B ds n true (l.set j true) rj && walkT T B ds n true (l.set k true) rk
 | n + 1, _, l, .four i j k m ri rj rk rm => (readyT T.2 l == [i, j, k, m] && !ds.contains i && !ds.contains j && !ds.contains k && !ds.contains m) && walkT T B ds n true (l.set i true) ri && walkT T B ds n true (l.set j true) rj && walkT T B ds n true (l.set k true) rk && walkT T B ds n true (l.set m true) rm
 | 0, _, _, _ => false
def regT (ops : Array Oper) (T : Bool × List (List Nat × List Nat)) (B ds : List Nat) (r : Tre) : Bool := rtab .any ops == T && waitsOk T.2 B && walkT T B ds ops.size true (List.replicate ops.size false) r
theorem put_withT (a : Act) (d : Option Tmp) (v : Value) : a.put d v = { a with tmps := (a.put d v).tmps } := by cases d <;> rfl
def Ev1 (P : Program) (o : Oper) (ops : Array Oper) (Q : Exit → Act → World → Prop) (a : Act) (w : World) (G : Act → World → Prop) : Prop :=
 ∀ K : Act → World → Prop, Shut (∀ a' w', G a' w' → K a' w') → if Region.wanted o (yielded ops a.tmps) = true then Oper.wp P o a w K Q else K (a.put o.dst undef) w
def wpTre (P : Program) (ops : Array Oper) (Q : Exit → Act → World → Prop) (S : World → Prop) : Tre → Act → World → Prop
 | .d, a, w => Q .normal a w
 | .p i r, a, w => ∃ o v, ops[i]? = some o ∧ Yields P ops o v a ∧ wpTre P ops Q S r (a.put o.dst v) w
 | .t i r, a, w => ∃ o v, ops[i]? = some o ∧ YieldsIf P ops S o v a ∧ wpTre P ops Q S r (a.put o.dst v) w
 | .e i r, a, w => ∃ o, ops[i]? = some o ∧ Ev1 P o ops Q a w (fun a' w' => S w' ∧ (S w' → wpTre P ops Q S r a' w'))
 | .l i r, a, w => ∃ o, ops[i]? = some o ∧ Ev1 P o ops Q a w (fun a' w' => wpTre P ops Q S r a' w')
 | .two i j ri rj, a, w => (∃ o, ops[i]? = some o ∧ Ev1 P o ops Q a w (fun a' w' => S w' ∧ (S w' → wpTre P ops Q S ri a' w'))) ∧ (∃ o, ops[j]? = some o ∧ Ev1 P o ops Q a w (fun a' w' => S w' ∧ (S w' → wpTre P ops Q S rj a' w')))
 | .three i j k ri rj rk, a, w => (∃ o, ops[i]? = some o ∧ Ev1 P o ops Q a w (fun a' w' => S w' ∧ (S w' → wpTre P ops Q S ri a' w'))) ∧ (∃ o, ops[j]? = some o ∧ Ev1 P o ops Q a w (fun a' w' => S w' ∧ (S w' → wpTre P ops Q S rj a' w'))) ∧ (∃ o, ops[k]? = some o ∧ Ev1 P o ops Q a w (fun a' w' => S w' ∧ (S w' → wpTre P ops Q S rk a' w')))
 | .four i j k m ri rj rk rm, a, w => (∃ o, ops[i]? = some o ∧ Ev1 P o ops Q a w (fun a' w' => S w' ∧ (S w' → wpTre P ops Q S ri a' w'))) ∧ (∃ o, ops[j]? = some o ∧ Ev1 P o ops Q a w (fun a' w' => S w' ∧ (S w' → wpTre P ops Q S rj a' w'))) ∧ (∃ o, ops[k]? = some o ∧ Ev1 P o ops Q a w (fun a' w' => S w' ∧ (S w' → wpTre P ops Q S rk a' w'))) ∧ (∃ o, ops[m]? = some o ∧ Ev1 P o ops Q a w (fun a' w' => S w' ∧ (S w' → wpTre P ops Q S rm a' w')))
theorem wpTre_sound (hT : rtab .any ops = T) (hB : waitsOk T.2 B = true) (hQ : ∀ c (a : Act) ts w, Q (.panic c) { a with tmps := ts } w → Q (.panic c) a w) : ∀ (r : Tre) (n : Nat) (k : Bool) (l : List Bool) (a : Act) (w : World),
  walkT T B ds n k l r = true → (k = true → S w) → wpTre P ops Q S r a w → wpAnyLast P .any ops Q S ds n l.toArray a w
 | .d, n, k, l, a, w, hc, hS, h => done_ (by subst hT; rw [ready_eq]; cases n <;> simpa [walkT] using hc) h
 | .p i r, 0, k, l, a, w, hc, hS, h => by simp [walkT] at hc
 | .p i r, n + 1, k, l, a, w, hc, hS, h => by
  simp only [walkT, Bool.and_eq_true] at hc
  obtain ⟨⟨⟨h1, h2⟩, h3⟩, h4⟩ := hc
  obtain ⟨o, v, ho, hy, hr⟩ := h
  refine pure_ (l.set i true).toArray ho rfl (any_of hT ?_) (fun c a w hh => hQ c a (a.put o.dst v).tmps w (by rw [← put_withT]; exact hh)) hy rfl (wpTre_sound hT hB hQ r n k _ _ w h4 hS hr)
  simp only [anyT, Bool.and_eq_true]
  exact ⟨⟨⟨h1, h2⟩, h3⟩, by simp⟩
 | .t i r, 0, k, l, a, w, hc, hS, h => by simp [walkT] at hc
 | .t i r, n + 1, k, l, a, w, hc, hS, h => by
  simp only [walkT, Bool.and_eq_true] at hc
  obtain ⟨⟨h1, h2⟩, h4⟩ := hc
  obtain ⟨o, v, ho, hy, hr⟩ := h
  exact take_ (l.set i true).toArray ho rfl (take_ofW hT hB h2) (fun c a w hh => hQ c a (a.put o.dst v).tmps w (by rw [← put_withT]; exact hh)) hy (hS h1) rfl (wpTre_sound hT hB hQ r n k _ _ w h4 hS hr)
 | .e i r, 0, k, l, a, w, hc, hS, h => by simp [walkT] at hc
 | .e i r, n + 1, k, l, a, w, hc, hS, h => by
  simp only [walkT, Bool.and_eq_true] at hc
  obtain ⟨⟨h1, h2⟩, h4⟩ := hc
  obtain ⟨o, ho, hr⟩ := h
  refine one_ (l.set i true).toArray ho rfl (one_of hT ?_) (by simpa using h2) (fun K hK => hr K (fun a' w' hs => hK.out a' w' hs.1 fun hs2 => wpTre_sound hT hB hQ r n true _ a' w' h4 (fun _ => hs2) (hs.2 hs2)))
  simp only [Bool.and_eq_true]
  exact ⟨h1, by simp⟩
 | .l i r, 0, k, l, a, w, hc, hS, h => by simp [walkT] at hc
 | .l i r, n + 1, k, l, a, w, hc, hS, h => by
  simp only [walkT, Bool.and_eq_true] at hc
  obtain ⟨⟨h1, h2⟩, h4⟩ := hc
  obtain ⟨o, ho, hr⟩ := h
  refine last_ (l.set i true).toArray ho rfl (one_of hT ?_) (by simpa using h2) (fun K hK => hr K (fun a' w' hs => hK.out a' w' (wpTre_sound hT hB hQ r n false _ a' w' h4 (fun h => by cases h) hs)))
  simp only [Bool.and_eq_true]
  exact ⟨h1, by simp⟩
 | .two i j ri rj, 0, k, l, a, w, hc, hS, h => by simp [walkT] at hc
 | .two i j ri rj, n + 1, k, l, a, w, hc, hS, h => by
  simp only [walkT, Bool.and_eq_true] at hc
  obtain ⟨⟨⟨⟨h1, h2⟩, h3⟩, h4⟩, h5⟩ := hc
  obtain ⟨⟨oi, hoi, hri⟩, oj, hoj, hrj⟩ := h
  refine two_ (l.set i true).toArray (l.set j true).toArray hoi hoj rfl rfl (two_of hT ?_) (by simpa using h2) (by simpa using h3) (fun K hK => hri K (fun a' w' hs => hK.out a' w' hs.1 fun hs2 => wpTre_sound hT hB hQ ri n true _ a' w' h4 (fun _ => hs2) (hs.2 hs2))) (fun K hK => hrj K (fun a' w' hs => hK.out a' w' hs.1 fun hs2 => wpTre_sound hT hB hQ rj n true _ a' w' h5 (fun _ => hs2) (hs.2 hs2)))
  simp only [Bool.and_eq_true]
  exact ⟨⟨h1, by simp⟩, by simp⟩
 | .three i j k ri rj rk, 0, k_, l, a, w, hc, hS, h => by simp [walkT] at hc
 | .three i j k ri rj rk, n + 1, k_, l, a, w, hc, hS, h => by
  simp only [walkT, Bool.and_eq_true, beq_iff_eq] at hc
  obtain ⟨⟨⟨⟨⟨⟨h1, ci⟩, cj⟩, ck⟩, wi⟩, wj⟩, wk⟩ := hc
  obtain ⟨⟨oi, hoi, hri⟩, ⟨oj, hoj, hrj⟩, ⟨ok, hok, hrk⟩⟩ := h
  refine wpAnyLast_ready (rs := [i, j, k]) (by rw [ready_eq, hT]; exact h1) (by simp) (AllReadyL.cons hoi (by simpa using ci) (fun K hK => hri K (fun a' w' hs => hK.out a' w' hs.1 fun hs2 => by rw [show l.toArray.setIfInBounds i true = (l.set i true).toArray by simp]; exact wpTre_sound hT hB hQ ri n true _ a' w' wi (fun _ => hs2) (hs.2 hs2))) (AllReadyL.cons hoj (by simpa using cj) (fun K hK => hrj K (fun a' w' hs => hK.out a' w' hs.1 fun hs2 => by rw [show l.toArray.setIfInBounds j true = (l.set j true).toArray by simp]; exact wpTre_sound hT hB hQ rj n true _ a' w' wj (fun _ => hs2) (hs.2 hs2))) (AllReadyL.cons hok (by simpa using ck) (fun K hK => hrk K (fun a' w' hs => hK.out a' w' hs.1 fun hs2 => by rw [show l.toArray.setIfInBounds k true = (l.set k true).toArray by simp]; exact wpTre_sound hT hB hQ rk n true _ a' w' wk (fun _ => hs2) (hs.2 hs2))) AllReadyL.nil)))
 | .four i j k m ri rj rk rm, 0, k_, l, a, w, hc, hS, h => by simp [walkT] at hc
 | .four i j k m ri rj rk rm, n + 1, k_, l, a, w, hc, hS, h => by
  simp only [walkT, Bool.and_eq_true, beq_iff_eq] at hc
  obtain ⟨⟨⟨⟨⟨⟨⟨⟨h1, ci⟩, cj⟩, ck⟩, cm⟩, wi⟩, wj⟩, wk⟩, wm⟩ := hc
  obtain ⟨⟨oi, hoi, hri⟩, ⟨oj, hoj, hrj⟩, ⟨ok, hok, hrk⟩, ⟨om, hom, hrm⟩⟩ := h
  refine wpAnyLast_ready (rs := [i, j, k, m]) (by rw [ready_eq, hT]; exact h1) (by simp) (AllReadyL.cons hoi (by simpa using ci) (fun K hK => hri K (fun a' w' hs => hK.out a' w' hs.1 fun hs2 => by rw [show l.toArray.setIfInBounds i true = (l.set i true).toArray by simp]; exact wpTre_sound hT hB hQ ri n true _ a' w' wi (fun _ => hs2) (hs.2 hs2))) (AllReadyL.cons hoj (by simpa using cj) (fun K hK => hrj K (fun a' w' hs => hK.out a' w' hs.1 fun hs2 => by rw [show l.toArray.setIfInBounds j true = (l.set j true).toArray by simp]; exact wpTre_sound hT hB hQ rj n true _ a' w' wj (fun _ => hs2) (hs.2 hs2))) (AllReadyL.cons hok (by simpa using ck) (fun K hK => hrk K (fun a' w' hs => hK.out a' w' hs.1 fun hs2 => by rw [show l.toArray.setIfInBounds k true = (l.set k true).toArray by simp]; exact wpTre_sound hT hB hQ rk n true _ a' w' wk (fun _ => hs2) (hs.2 hs2))) (AllReadyL.cons hom (by simpa using cm) (fun K hK => hrm K (fun a' w' hs => hK.out a' w' hs.1 fun hs2 => by rw [show l.toArray.setIfInBounds m true = (l.set m true).toArray by simp]; exact wpTre_sound hT hB hQ rm n true _ a' w' wm (fun _ => hs2) (hs.2 hs2))) AllReadyL.nil))))
theorem tre_start {id : Nat} (hc : regT ops T B ds r = true) (hm : P.follows .mixedOrders = true) (hQ : ∀ c (a : Act) ts w, Q (.panic c) { a with tmps := ts } w → Q (.panic c) a w) (hS : S w.drew) (h : S w.drew → wpTre P ops Q S r a w.drew) : (Code.region id ops true).wp P Q a w := by
 simp only [regT, Bool.and_eq_true, beq_iff_eq] at hc
 obtain ⟨⟨h1, h2⟩, h4⟩ := hc
 refine start_ (ds := ds) (List.replicate ops.size false).toArray hm rfl (by simp) hS (fun hs => ?_)
 exact wpTre_sound h1 h2 hQ r _ true _ a _ h4 (fun _ => hs) (h hs)
theorem tre_p (ho : ops[i]? = some o) (hN : o.dst = N) (hy : Yields P ops o v a) {a' : Act} (ha : a.put N v = a') (h : wpTre P ops Q S r a' w) : wpTre P ops Q S (.p i r) a w := by
 subst hN; subst ha; exact ⟨o, v, ho, hy, h⟩
theorem tre_t (ho : ops[i]? = some o) (hN : o.dst = N) (hy : YieldsIf P ops S o v a) {a' : Act} (ha : a.put N v = a') (h : wpTre P ops Q S r a' w) : wpTre P ops Q S (.t i r) a w := by
 subst hN; subst ha; exact ⟨o, v, ho, hy, h⟩
theorem tre_e (ho : ops[i]? = some o) (h : Ev1 P o ops Q a w (fun a' w' => S w' ∧ (S w' → wpTre P ops Q S r a' w'))) : wpTre P ops Q S (.e i r) a w := ⟨o, ho, h⟩
theorem tre_l (ho : ops[i]? = some o) (h : Ev1 P o ops Q a w (fun a' w' => wpTre P ops Q S r a' w')) : wpTre P ops Q S (.l i r) a w := ⟨o, ho, h⟩
theorem tre_two {oj : Oper} (ho : ops[i]? = some o) (hoj : ops[j]? = some oj) (h : Ev1 P o ops Q a w (fun a' w' => S w' ∧ (S w' → wpTre P ops Q S ri a' w'))) (h2 : Ev1 P oj ops Q a w (fun a' w' => S w' ∧ (S w' → wpTre P ops Q S rj a' w'))) : wpTre P ops Q S (.two i j ri rj) a w := ⟨⟨o, ho, h⟩, oj, hoj, h2⟩
theorem tre_done (h : Q .normal a w) : wpTre P ops Q S .d a w := h
theorem tre_norm {a' : Act} (ha : a = a') (h : wpTre P ops Q S r a' w) : wpTre P ops Q S r a w := by subst ha; exact h
theorem ev1_call {G : Act → World → Prop} {f : FuncId} {fn : Func} {aa : Array Operand} {ts : Array TypeId} (hN : o.dst = N) (hf : P.funcs[f]? = some fn) (hname : (fn.name == "runtime.NumGoroutine") = false) (hb : fn.body.isSome = true) (args : Array Value)
  (hw : Region.wanted o (yielded ops a.tmps) = true) (hop : o.op = .call { callee := .value (.func f), args := aa, argTypes := ts }) (hargs : aa.map a.eval = args)
  (h : Calls P f args w fun e w' => ∃ v, e = .returned v ∧ G (a.put N v) w') : Ev1 P o ops Q a w G := by
 subst hN
 exact fun K hK => goes_ hf hname hb args hw rfl hop hargs (h.mono fun e w' ⟨v, he, hk⟩ => ⟨v, he, hK.out _ _ hk⟩)
theorem ev1_alloc {G : Act → World → Prop} (hN : o.dst = N) (hw : Region.wanted o (yielded ops a.tmps) = true) (ty : TypeId) (hop : o.op = .alloc ty) (cs : List Value) (hz : (zeroValue ty).run P w = .ok (.agg cs.toArray) w)
  (h : G (a.put N (.pointer (some ⟨w.heap.size, 0, none⟩))) (w.alloc (.cells cs.toArray ty))) : Ev1 P o ops Q a w G := by
 intro K hK
 subst hN
 rw [if_pos hw]
 unfold Oper.wp execOp
 simp only [hop, Instr.alloc, Sem.run_bind, hz, Result.andThen_ok, newVar, Value.cells, Sem.run_pure]
 exact hK.out _ _ h
end
end Go.Proofs.YtonhdiemjgdcnaaW.PrintLast
namespace Go.Proofs.Ytonhdiemjgdcnaa.PFnExactGivePage
open Go.RowKit Go.Proofs.YtonhdiemjgdcnaaW.PrintWords Go.Proofs.YtonhdiemjgdcnaaW.PrintLast Go.Proofs.YtonhdiemjgdcnaaW.PrintMore
section
variable {P : Program} {ops : Array Oper} {Q : Exit → Act → World → Prop} {S : World → Prop} {G : Act → World → Prop} {N : Option Tmp} {o : Oper} {a : Act} {w : World} {i : Nat} {r : Tre}
theorem tre_loadpart (ho : ops[i]? = some o) (hN : o.dst = N) (hw : Region.wanted o (yielded ops a.tmps) = true) (ty : TypeId) (x : Operand) (hop : o.op = .load ty x) (g off : Nat) (pre mid post : List Value) {cs : List Value} {t : TypeId} (d : TypeDesc) (hx : a.eval x = .pointer (some ⟨g, off, none⟩)) (hg : ∀ w', S w' → w'.heap[g]? = some (.cells cs.toArray t (0, 0))) (e : cs = pre ++ (mid ++ post)) (hp : pre.length = off)
  (hu : P.underlying ty = some d) (hd : d.isRow = true) (hi : (P.info? ty).map (·.size) = some mid.length) {a' : Act} (ha : a.put N (.agg mid.toArray) = a') (h : wpTre P ops Q S r a' w) : wpTre P ops Q S (.t i r) a w :=
 tre_t ho hN (.inl ⟨hw, fun w' hs => run_loadpart ty x hop g off pre mid post d hx (hg w' hs) e hp hu hd hi⟩) ha h
theorem tre_loadcell (ho : ops[i]? = some o) (hN : o.dst = N) (hw : Region.wanted o (yielded ops a.tmps) = true) (ty : TypeId) (x : Operand) (hop : o.op = .load ty x) (g off : Nat) (pre : List Value) (v : Value) (post : List Value) {cs : List Value} {t : TypeId} (d : TypeDesc) (hx : a.eval x = .pointer (some ⟨g, off, none⟩)) (hg : ∀ w', S w' → w'.heap[g]? = some (.cells cs.toArray t (0, 0))) (e : cs = pre ++ ([v] ++ post)) (hp : pre.length = off)
  (hu : P.underlying ty = some d) (hd : d.isRow = false) {a' : Act} (ha : a.put N v = a') (h : wpTre P ops Q S r a' w) : wpTre P ops Q S (.t i r) a w :=
 tre_t ho hN (.inl ⟨hw, fun w' hs => run_loadcell ty x hop g off pre v post hx (hg w' hs) e hp hu hd⟩) ha h
theorem ev1_storepart (hN : o.dst = none) (hw : Region.wanted o (yielded ops a.tmps) = true) (ty : TypeId) (x y : Operand) (hop : o.op = .store ty x y) (g off : Nat) (new pre mid post : List Value) {cs : List Value} {t : TypeId} (hx : a.eval x = .pointer (some ⟨g, off, none⟩)) (hy : a.eval y = .agg new.toArray) (hg : w.heap[g]? = some (.cells cs.toArray t (0, 0))) (e : cs = pre ++ (mid ++ post)) (hp : pre.length = off)
  (hl : new.length = mid.length) (hi : (P.info? ty).map (·.size) = some new.length) (h1 : ∀ v ∈ new, v.oneCell' = true)
  (h : ∀ W', Put1 w W' g → W'.heap[g]? = some (.cells (pre ++ (new ++ post)).toArray t (0, 0)) → G a W') : Ev1 P o ops Q a w G := by
 intro K hK
 rw [if_pos hw]
 refine wp_store_mid ty x y hop g off new.toArray hx hy (by have := part_there hg e hp; rw [List.size_toArray, hl]; exact this) (by rw [List.size_toArray]; exact hi) (Array.all_eq_true_iff_forall_mem.2 (fun v hv => h1 v (by simpa using hv))) ?_
 rw [show a.put o.dst undef = a by rw [hN]; rfl]
 refine hK.out _ _ (h _ (Put1.cells off _) ?_)
 subst e; subst hp
 exact part_set new mid pre post w hl hg
end
end Go.Proofs.Ytonhdiemjgdcnaa.PFnExactGivePage
namespace Go.Proofs.Ytonhdiemjgdcnaa.PFnExactGivePage
open Go.RowKit Go.Proofs.YtonhdiemjgdcnaaW.PrintWords Go.Proofs.YtonhdiemjgdcnaaW.PrintLast Go.Proofs.YtonhdiemjgdcnaaW.PrintMore
attribute [local go_sem] max2_int min2_int max_two min_two max_three min_three max_four min_four
abbrev Z34 : List Value := [.slice none 0 0, .slice none 0 0, .int .i64 0, .slice none 0 0, .slice none 0 0, .slice none 0 0]
abbrev Z53 : List Value := [.int .i64 0, .int .i64 0, .int .i64 0, .slice none 0 0]
abbrev Z56 : List Value := [.int .i64 0, .int .i64 0, .int .i64 0, .slice none 0 0, .slice none 0 0, .slice none 0 0, .int .i64 0, .slice none 0 0, .slice none 0 0, .slice none 0 0, .int .i64 0]
theorem Env.cell {w0 W : World} {top : Nat} {fs : List Fct} (E : Env w0 W top fs) {a : Addr} {v : Value} (h : w0.cell? a = some v) : W.cell? a = some v := (E.below.cell (World.block_lt_of_cell? w0 _ h)).trans h
theorem elem_at {α : Type} {d : Kd α} {w : World} {A : Option Addr} {n : Nat} {xs : List α} (h : Kd.C d w A n xs) {i : Nat} (hi : i < xs.length) (hz : 0 < d.sz) : ∃ ad v cs, A = some ad ∧ d.K w xs[i] (v :: cs) ∧ w.cell? (ad.add (i * d.sz)) = some v ∧ w.rangeAt (ad.add (i * d.sz)).block ((ad.add (i * d.sz)).off + 1) cs := by
 obtain ⟨h1, h2, h3⟩ := h
 obtain ⟨ad, e, hc⟩ := h3 (by omega)
 obtain ⟨c, hs, hr, hcell⟩ := hc i _ (List.getElem?_eq_getElem hi)
 cases c with
 | nil => rw [List.length_nil] at hs; omega
 | cons v cs =>
  refine ⟨ad, v, cs, e, hr, hcell 0 v rfl, fun j u hj => ?_⟩
  have := hcell (j + 1) u (by simpa using hj)
  rw [add_field _ _ (j + 1) (by omega)] at this
  rw [Nat.add_assoc, Nat.add_comm 1 j]
  exact this
section
variable {P : Program} {ops : Array Oper} {Q : Exit → Act → World → Prop} {S : World → Prop} {G : Act → World → Prop} {N : Option Tmp} {o : Oper} {a : Act} {w : World} {i : Nat} {r : Tre}
end
section
variable {P : Program} {ops : Array Oper} {rest : List Oper} {o : Oper} {a : Act} {Q : Exit → Act → World → Prop} {W : World}
theorem ev_loadpart_w (hw : Region.wanted o (yielded ops a.tmps) = true) (ty : TypeId) (x : Operand) (ho : o.op = .load ty x) (g off : Nat) (pre mid post : List Value) {cs : List Value} {t : TypeId} (d : TypeDesc) (hx : a.eval x = .pointer (some ⟨g, off, none⟩)) (hg : W.heap[g]? = some (.cells cs.toArray t (0, 0))) (e : cs = pre ++ (mid ++ post)) (hp : pre.length = off)
  (hu : P.underlying ty = some d) (hd : d.isRow = true) (hi : (P.info? ty).map (·.size) = some mid.length) (h : wpList P ops Q rest (a.put o.dst (.agg mid.toArray)) W) : wpList P ops Q (o :: rest) a W := by
 refine wpList_step fun K hK => ?_
 rw [if_pos hw]
 unfold Oper.wp
 rw [run_loadpart ty x ho g off pre mid post d hx hg e hp hu hd hi]
 exact hK _ _ h
end
def Off2 (lo hi : Nat) : List Fct → Nat → Prop
 | [], _ => True
 | _ :: fs, 0 => Off2A lo hi fs
 | f :: fs, n + 1 => (f.hi ≤ lo ∨ hi ≤ f.lo) ∧ Off2 lo hi fs n
where Off2A (lo hi : Nat) : List Fct → Prop
 | [] => True
 | f :: fs => (f.hi ≤ lo ∨ hi ≤ f.lo) ∧ Off2A lo hi fs
theorem All.off2A {W W' : World} {top top' lo hi : Nat} (hk : ∀ k, k < top → (k < lo ∨ hi ≤ k) → W'.heap[k]? = W.heap[k]?) (ht : top ≤ top') : ∀ {fs : List Fct}, All W top fs → Off2.Off2A lo hi fs → All W' top' fs
 | [], _, _ => trivial
 | f :: _, ⟨⟨h1, h2⟩, h3⟩, ⟨h4, h5⟩ => ⟨⟨Nat.le_trans h1 ht, f.mv (fun k h6 h7 => hk k (by omega) (by omega)) h2⟩, All.off2A hk ht h3 h5⟩
theorem All.off2 {W W' : World} {top top' lo hi : Nat} (hk : ∀ k, k < top → (k < lo ∨ hi ≤ k) → W'.heap[k]? = W.heap[k]?) (ht : top ≤ top') {f' : Fct} (h1' : f'.hi ≤ top') (hf : f'.P W') : ∀ {fs : List Fct} (i : Nat), All W top fs → Off2 lo hi fs i → All W' top' (fs.set i f')
 | [], i, _, _ => by cases i <;> exact trivial
 | _ :: _, 0, ⟨_, h3⟩, h5 => ⟨⟨h1', hf⟩, All.off2A hk ht h3 h5⟩
 | f :: _, i + 1, ⟨⟨h1, h2⟩, h3⟩, ⟨h4, h5⟩ => ⟨⟨Nat.le_trans h1 ht, f.mv (fun k h6 h7 => hk k (by omega) (by omega)) h2⟩, All.off2 hk ht h1' hf i h3 h5⟩
section
variable {P : Program} {ops : Array Oper} {Q : Exit → Act → World → Prop} {G : Act → World → Prop} {N : Option Tmp} {o : Oper} {a : Act}
end
def Fct.nil : Fct := ⟨0, 0, fun _ => True, fun _ h => h⟩
theorem All.set {W : World} {top : Nat} {f' : Fct} : ∀ {fs : List Fct} (i : Nat), f'.hi ≤ top → f'.P W → All W top fs → All W top (fs.set i f')
 | [], i, _, _, _ => by cases i <;> exact trivial
 | _ :: _, 0, h1, h2, ⟨_, h3⟩ => ⟨⟨h1, h2⟩, h3⟩
 | _ :: _, i + 1, h1, h2, ⟨h4, h3⟩ => ⟨h4, All.set i h1 h2 h3⟩
theorem arow_of_srow {α : Type} {d : Kd α} {e : Nat} {W : World} {base : Nat} {p : Nat → Prop} {xs : List α} {v : Value} (h : (Own.srow e d).M W base p xs [v]) : (Own.arow e d).M W base p xs [v] := by
 obtain ⟨v', hv, hS⟩ := h
 injection hv with hv
 subst hv
 exact Own.arow_of_S hS
section
variable {P : Program} {ops : Array Oper} {Q : Exit → Act → World → Prop} {G : Act → World → Prop} {N : Option Tmp} {o : Oper} {a : Act} {w0 W : World} {top : Nat} {fs : List Fct}
end
theorem Kpair {α β : Type} {a : Kd α} {b : Kd β} {w : World} {x : α} {y : β} {c0 c1 : List Value} (ha : a.K w x c0) (hb : b.K w y c1) : (Own.apair a b).K w (x, y) (c0 ++ c1) := ⟨c0, c1, rfl, ha, hb⟩
theorem kWork_of2 {W : World} {base : Nat} {p p3 p4 p5 : Nat → Prop} {l0 : List ByteArray} {l1 : List S135} {l2 : Int} {l3 l4 l5 : List Int} {c : List Value} {v3 v4 v5 : Value} (h : kDisk.M W base p (l0, l1) c) (h3 : (Own.arow 3 (Kd.int .i64)).M W base p3 l3 [v3]) (h4 : (Own.arow 3 (Kd.int .i64)).M W base p4 l4 [v4]) (h5 : (Own.arow 3 (Kd.int .i64)).M W base p5 l5 [v5]) (d0 : ∀ k, p k → ¬ (p3 k ∨ p4 k ∨ p5 k)) (d1 : ∀ k, p3 k → ¬ (p4 k ∨ p5 k)) (d2 : ∀ k, p4 k → ¬ p5 k) : kWork.M W base (fun k => p k ∨ p3 k ∨ p4 k ∨ p5 k) (l0, l1, l2, l3, l4, l5) (c ++ ([.int .i64 l2] ++ ([v3] ++ ([v4] ++ [v5])))) := by
 obtain ⟨c0, c1, okA, okB, rfl, ha, hb, hA, hB, hab⟩ := Own.apair_open h
 have t3 := comb h3 (comb h4 h5 d2) d1
 have t2 : (Own.apair (Kd.int .i64) (Own.apair (Own.arow 3 (Kd.int .i64)) (Own.apair (Own.arow 3 (Kd.int .i64)) (Own.arow 3 (Kd.int .i64))))).M W base (fun k => p3 k ∨ p4 k ∨ p5 k) (l2, l3, l4, l5) ([.int .i64 l2] ++ ([v3] ++ ([v4] ++ [v5]))) := Own.apair_mk (okA := fun _ => False) (Mint (n := l2)) t3 (fun _ h => h.elim) (fun _ h => h) (fun _ h => h.elim)
 rw [List.append_assoc]
 exact Own.apair_mk (ok := fun k => p k ∨ p3 k ∨ p4 k ∨ p5 k) (okA := okA) (okB := fun k => okB k ∨ p3 k ∨ p4 k ∨ p5 k) ha (Own.apair_mk (ok := fun k => okB k ∨ p3 k ∨ p4 k ∨ p5 k) (okA := okB) (okB := fun k => p3 k ∨ p4 k ∨ p5 k) hb t2 (fun k h => Or.inl h) (fun k h => Or.inr h) (fun k h1 h3 => d0 k (hB k h1) h3)) (fun k h => Or.inl (hA k h)) (fun k h => h.elim (fun h => Or.inl (hB k h)) Or.inr) (fun k h1 h3 => h3.elim (hab k h1) (d0 k (hA k h1)))
theorem kDisk_lit {w : World} {l0 : List ByteArray} {l1 : List S135} {a b : Value} (h0 : (Own.srow 9 Kd.string).K w l0 [a]) (h1 : (Own.srow 135 k135).K w l1 [b]) : kDisk.K w (l0, l1) [a, b] := Kpair h0 h1
def SmallM (x : S53) : Prop := x.f3.length ≤ 2000000 ∧ ∀ f ∈ x.f3, f.f1.length ≤ 2000000
theorem R_made0 {α : Type} (d : Kd α) (e base : Nat) (w : World) (ok : Nat → Prop) (hb : base ≤ w.heap.size) (hok : ok w.heap.size) : Kd.R d e (w.alloc (.cells #[] e)) base ok (.slice (some ⟨w.heap.size, 0, none⟩) 0 0) [] :=
 ⟨fun k hk => by simp [Value.ownBlock] at hk; rw [← hk]; exact hok, [], World.ownsRow_made w #[] 0 hb (by decide) (by simp), Reps.none _ _⟩
theorem kDiskL_lit {w : World} {l0 : List ByteArray} {l1 : List S140} {a b : Value} (h0 : (Own.srow 9 Kd.string).K w l0 [a]) (h1 : (Own.srow 140 k140).K w l1 [b]) : kDiskL.K w (l0, l1) [a, b] := Kpair h0 h1
theorem made_of_R {α : Type} {d : Kd α} (hE : d.E = []) {e : Nat} {w w' : World} {v : Value} {xs : List α} {ok : Nat → Prop} (h : d.R e w' w.heap.size ok v xs) : (Own.srow e d).M w' w.heap.size (Fr w w') xs [v] :=
 (Own.srow e d).M_mono (fun k hk => ⟨Kd.R_base h k hk.symm, Kd.R_lt h k hk.symm⟩) (Own.srow_of_R hE h)
theorem cloneInts_c (z : List Int) {v : Value} (w : World) (h : (Own.arow 3 (Kd.int .i64)).K w z [v]) (hl : z.length ≤ 2000000) :
  Calls Try.prog 95 #[v] w fun e w' => ∃ u : Value, e = .returned u ∧ (Own.srow 3 (Kd.int .i64)).M w' w.heap.size (Fr w w') z [u] ∧ Below w.heap.size w w' := by
 obtain ⟨A, c, hv, m, r⟩ := h
 injection hv with hv
 subst hv
 refine (slices_Clone_int_int.calls A c z z w r m (by unfold slices_Clone_int_int.f; rw [if_pos (by omega)])).mono ?_
 rintro e w' ⟨u, rfl, R, hb⟩
 exact ⟨u, rfl, made_of_R rfl R, hb⟩
theorem eqInts_c (k : Nat) (z : List Int)  {v0 : Value} {v1 : Value} (w : World) (h0 : (Own.arow 3 (Kd.int .i64)).K w z [v0]) (h1 : (Own.arow 3 (Kd.int .i64)).K w z [v1]) (hf : laws_eqIntS.f k z z = some true) :
  Calls Try.prog 50 #[v0, v1] w fun e w' => e = .returned (.bool true) ∧ Below w.heap.size w w' := by
 obtain ⟨A0, c0, hv, m0, r0⟩ := h0
 injection hv with hv
 subst hv
 obtain ⟨A1, c1, hv, m1, r1⟩ := h1
 injection hv with hv
 subst hv
 refine (laws_eqIntS.calls k A0 c0 z A1 c1 z true w r0 m0 r1 m1 hf).mono ?_
 rintro e w' ⟨he, hb⟩
 exact ⟨he, by first | exact hb | exact hb.below⟩
theorem toInts_c (k : Nat) (z : List Int) (r : List Int) {v0 : Value} (w : World) (h0 : (Own.arow 3 (Kd.int .i64)).K w z [v0]) (hf : laws_toIntS.f k z = some r) :
  Calls Try.prog 48 #[v0] w fun e w' => ∃ u : Value, e = .returned u ∧ (Own.srow 3 (Kd.int .i64)).M w' w.heap.size (Fr w w') r [u] ∧ Below w.heap.size w w' := by
 obtain ⟨A0, c0, hv, m0, r0⟩ := h0
 injection hv with hv
 subst hv
 refine (laws_toIntS.calls k A0 c0 z r w r0 m0 hf).mono ?_
 rintro e w' ⟨u, rfl, R, hb⟩
 exact ⟨u, rfl, made_of_R rfl R, hb⟩
theorem toDisk_c (k : Nat) (a : (List ByteArray × List S140)) (z : (List ByteArray × List S135)) {cs : List Value} (w : World) (h : kDiskL.K w a cs) (hf : laws_toDisk.f k a.1 a.2 = some (z.1, z.2)) :
  Calls Try.prog 24 #[.agg cs.toArray] w fun e w' => ∃ ds : List Value, e = .returned (.agg ds.toArray) ∧ kDisk.M w' w.heap.size (Fr w w') z ds ∧ Below w.heap.size w w' := toDisk_o k a.1 a.2 z.1 z.2 w h hf
def eqDisk_c_f (k : Nat) (z0 : (List ByteArray × List S135)) (z1 : (List ByteArray × List S135))  : Option Bool := laws_eqDisk.f k z0.1 z0.2 z1.1 z1.2
theorem eqDisk_c (k : Nat) (z0 : (List ByteArray × List S135)) {cs0 : List Value} (z1 : (List ByteArray × List S135)) {cs1 : List Value}  (r : Bool) (w : World) (h0 : kDisk.K w z0 cs0) (h1 : kDisk.K w z1 cs1) (hf : eqDisk_c_f k z0 z1  = some r) :
  Calls Try.prog 27 #[.agg cs0.toArray, .agg cs1.toArray] w fun e w' => e = .returned (.bool r) ∧ Below w.heap.size w w' := by
 obtain ⟨p_0, q_0⟩ := z0
 obtain ⟨A_00, c_00, A_01, c_01, rfl, m_00, r_00, m_01, r_01⟩ := kDisk_open h0
 obtain ⟨p_1, q_1⟩ := z1
 obtain ⟨A_10, c_10, A_11, c_11, rfl, m_10, r_10, m_11, r_11⟩ := kDisk_open h1
 exact laws_eqDisk.calls k A_00 c_00 p_0 A_01 c_01 q_0 A_10 c_10 p_1 A_11 c_11 q_1  r w r_00 m_00 r_01 m_01 r_10 m_10 r_11 m_11 hf
def eqMeta_c_f (k : Nat) (z0 : S53) (z1 : S53)  : Option Bool := laws_eqMeta.f k z0.f0 z0.f1 z0.f2 z0.f3 z1.f0 z1.f1 z1.f2 z1.f3
theorem eqMeta_c (k : Nat) (z0 : S53) {cs0 : List Value} (z1 : S53) {cs1 : List Value}  (r : Bool) (w : World) (h0 : k53.K w z0 cs0) (h1 : k53.K w z1 cs1) (hf : eqMeta_c_f k z0 z1  = some r) :
  Calls Try.prog 41 #[.agg cs0.toArray, .agg cs1.toArray] w fun e w' => e = .returned (.bool r) ∧ Below w.heap.size w w' := by
 obtain ⟨x_0, rfl⟩ : ∃ x, x = z0 := ⟨_, rfl⟩
 obtain ⟨A_0, c_0, rfl, m_0, r_0⟩ := k53_open h0
 obtain ⟨x_1, rfl⟩ : ∃ x, x = z1 := ⟨_, rfl⟩
 obtain ⟨A_1, c_1, rfl, m_1, r_1⟩ := k53_open h1
 exact laws_eqMeta.calls k x_0.f0 x_0.f1 x_0.f2 A_0 c_0 x_0.f3 x_1.f0 x_1.f1 x_1.f2 A_1 c_1 x_1.f3  r w r_0 m_0 r_1 m_1 hf
def heldMeta_c_f (k : Nat) (z0 : S53) (a : Int) : Option Int := laws_heldMeta.f k z0.f0 z0.f1 z0.f2 z0.f3 a
theorem heldMeta_c (k : Nat) (z0 : S53) {cs0 : List Value} (a : Int) (r : Int) (w : World) (h0 : k53.K w z0 cs0) (hf : heldMeta_c_f k z0 a = some r) :
  Calls Try.prog 45 #[.agg cs0.toArray, .int .i64 a] w fun e w' => e = .returned (.int .i64 r) ∧ Below w.heap.size w w' := by
 obtain ⟨x_0, rfl⟩ : ∃ x, x = z0 := ⟨_, rfl⟩
 obtain ⟨A_0, c_0, rfl, m_0, r_0⟩ := k53_open h0
 exact laws_heldMeta.calls k x_0.f0 x_0.f1 x_0.f2 A_0 c_0 x_0.f3 a r w r_0 m_0 hf
def EqWork (k : Nat) (z : (List ByteArray × List S135 × Int × List Int × List Int × List Int)) : Prop := eqDisk_c_f k (z.1, z.2.1) (z.1, z.2.1) = some true ∧ laws_eqIntS.f k z.2.2.2.1 z.2.2.2.1 = some true ∧ laws_eqIntS.f k z.2.2.2.2.1 z.2.2.2.2.1 = some true ∧ laws_eqIntS.f k z.2.2.2.2.2 z.2.2.2.2.2 = some true
theorem eqWork_c (k : Nat) (z : (List ByteArray × List S135 × Int × List Int × List Int × List Int)) {cs ds : List Value} (w : World) (h : kWork.K w z cs) (h2 : kWork.K w z ds) (hf : EqWork k z) :
  Calls Try.prog 13 #[.agg cs.toArray, .agg ds.toArray] w fun e w' => e = .returned (.bool true) ∧ Below w.heap.size w w' := by
 have hwp := h
 obtain ⟨cp0, _, rfl, hp0, cp1, _, rfl, hp1, cp2, _, rfl, hp2, cp3, _, rfl, hp3, cp4, cp5, rfl, hp4, hp5⟩ := h
 have gp0 := hp0; obtain ⟨A_, k_, rfl, -, -⟩ := hp0; obtain ⟨vp0, hv⟩ : ∃ v, v = Value.slice A_ (z.1).length k_ := ⟨_, rfl⟩; rw [← hv] at gp0 hwp ⊢; clear hv
 have gp1 := hp1; obtain ⟨A_, k_, rfl, -, -⟩ := hp1; obtain ⟨vp1, hv⟩ : ∃ v, v = Value.slice A_ (z.2.1).length k_ := ⟨_, rfl⟩; rw [← hv] at gp1 hwp ⊢; clear hv
 obtain rfl : cp2 = [.int .i64 z.2.2.1] := hp2
 have gp3 := hp3; obtain ⟨A_, k_, rfl, -, -⟩ := hp3; obtain ⟨vp3, hv⟩ : ∃ v, v = Value.slice A_ (z.2.2.2.1).length k_ := ⟨_, rfl⟩; rw [← hv] at gp3 hwp ⊢; clear hv
 have gp4 := hp4; obtain ⟨A_, k_, rfl, -, -⟩ := hp4; obtain ⟨vp4, hv⟩ : ∃ v, v = Value.slice A_ (z.2.2.2.2.1).length k_ := ⟨_, rfl⟩; rw [← hv] at gp4 hwp ⊢; clear hv
 have gp5 := hp5; obtain ⟨A_, k_, rfl, -, -⟩ := hp5; obtain ⟨vp5, hv⟩ : ∃ v, v = Value.slice A_ (z.2.2.2.2.2).length k_ := ⟨_, rfl⟩; rw [← hv] at gp5 hwp ⊢; clear hv
 obtain ⟨ep, he⟩ : ∃ cs, cs = [vp0] ++ ([vp1] ++ ([.int .i64 z.2.2.1] ++ ([vp3] ++ ([vp4] ++ ([vp5]))))) := ⟨_, rfl⟩; rw [← he] at hwp ⊢; have Ep := Aside0.mk he; have Wp := Aside0.mk hwp; have Np := Aside0.mk (show ep.length = 6 from Kd.K_len _ hwp); clear he hwp
 have Kp0 := Aside0.mk gp0; clear gp0
 have Kp1 := Aside0.mk gp1; clear gp1
 have Kp3 := Aside0.mk gp3; clear gp3
 have Kp4 := Aside0.mk gp4; clear gp4
 have Kp5 := Aside0.mk gp5; clear gp5
 have hwq := h2
 obtain ⟨cq0, _, rfl, hq0, cq1, _, rfl, hq1, cq2, _, rfl, hq2, cq3, _, rfl, hq3, cq4, cq5, rfl, hq4, hq5⟩ := h2
 have gq0 := hq0; obtain ⟨A_, k_, rfl, -, -⟩ := hq0; obtain ⟨vq0, hv⟩ : ∃ v, v = Value.slice A_ (z.1).length k_ := ⟨_, rfl⟩; rw [← hv] at gq0 hwq ⊢; clear hv
 have gq1 := hq1; obtain ⟨A_, k_, rfl, -, -⟩ := hq1; obtain ⟨vq1, hv⟩ : ∃ v, v = Value.slice A_ (z.2.1).length k_ := ⟨_, rfl⟩; rw [← hv] at gq1 hwq ⊢; clear hv
 obtain rfl : cq2 = [.int .i64 z.2.2.1] := hq2
 have gq3 := hq3; obtain ⟨A_, k_, rfl, -, -⟩ := hq3; obtain ⟨vq3, hv⟩ : ∃ v, v = Value.slice A_ (z.2.2.2.1).length k_ := ⟨_, rfl⟩; rw [← hv] at gq3 hwq ⊢; clear hv
 have gq4 := hq4; obtain ⟨A_, k_, rfl, -, -⟩ := hq4; obtain ⟨vq4, hv⟩ : ∃ v, v = Value.slice A_ (z.2.2.2.2.1).length k_ := ⟨_, rfl⟩; rw [← hv] at gq4 hwq ⊢; clear hv
 have gq5 := hq5; obtain ⟨A_, k_, rfl, -, -⟩ := hq5; obtain ⟨vq5, hv⟩ : ∃ v, v = Value.slice A_ (z.2.2.2.2.2).length k_ := ⟨_, rfl⟩; rw [← hv] at gq5 hwq ⊢; clear hv
 obtain ⟨eq, he⟩ : ∃ cs, cs = [vq0] ++ ([vq1] ++ ([.int .i64 z.2.2.1] ++ ([vq3] ++ ([vq4] ++ ([vq5]))))) := ⟨_, rfl⟩; rw [← he] at hwq ⊢; have Eq := Aside0.mk he; have Wq := Aside0.mk hwq; have Nq := Aside0.mk (show eq.length = 6 from Kd.K_len _ hwq); clear he hwq
 have Kq0 := Aside0.mk gq0; clear gq0
 have Kq1 := Aside0.mk gq1; clear gq1
 have Kq3 := Aside0.mk gq3; clear gq3
 have Kq4 := Aside0.mk gq4; clear gq4
 have Kq5 := Aside0.mk gq5; clear gq5
 obtain ⟨fF0, fF2, fF3, fF4⟩ := hf
 have F0 := Aside0.mk fF0; clear fF0
 have F2 := Aside0.mk fF2; clear fF2
 have F3 := Aside0.mk fF3; clear fF3
 have F4 := Aside0.mk fF4; clear fF4
 have O := Aside0.mk (Nat.le_refl w.heap.size)
 have E := Aside0.mk (Env.start w)
 go_enter Try.func13, Try.ntmps13
 go_wp2_with (first | ((with_reducible refine gate_dst (N := 6) rfl ?_); replace O := Aside0.mk (And.intro E.out.le O.out); replace E := Aside0.mk (E.out.alloc ep 34 (g := w.heap.size) rfl); replace E := Aside0.mk (E.out.alloc eq 34 (g := (w.heap.size + 1)) (by simp)); refine ev_loadpart rfl 32 _ rfl w.heap.size 0 [] [vp0, vp1] ([.int .i64 z.2.2.1] ++ ([vp3] ++ ([vp4] ++ [vp5]))) _ rfl (E.out.box 1 rfl) (by rw [Ep.out]; first | done | rfl | (simp only [aA, aN, aL]; first | done | rfl)) (rfl) Try.underlying32 rfl (by kernel_rfl) ?_) | ((with_reducible refine gate_dst (N := 8) rfl ?_); refine ev_loadpart rfl 32 _ rfl (w.heap.size + 1) 0 [] [vq0, vq1] ([.int .i64 z.2.2.1] ++ ([vq3] ++ ([vq4] ++ [vq5]))) _ rfl (E.out.box 0 rfl) (by rw [Eq.out]; first | done | rfl | (simp only [aA, aN, aL]; first | done | rfl)) (rfl) Try.underlying32 rfl (by kernel_rfl) ?_))
 ((with_reducible refine (eqDisk_c k (z.1, z.2.1) (z.1, z.2.1) true _ (kDisk_lit (E.out.K Kp0.out) (E.out.K Kp1.out)) (kDisk_lit (E.out.K Kq0.out) (E.out.K Kq1.out)) F0.out).mono ?_); rintro e w1_ ⟨rfl, hb⟩)
 replace E := Aside0.mk (E.out.call hb); clear hb
 go_wp2_with (first | ((with_reducible refine gate_dst (N := 12) rfl ?_); refine ev_loadcell rfl 3 _ rfl w.heap.size 2 ([vp0] ++ [vp1]) (.int .i64 z.2.2.1) ([vp3] ++ ([vp4] ++ [vp5])) rfl (E.out.box 1 rfl) (by rw [Ep.out]; first | done | rfl | (simp only [aA, aN, aL]; first | done | rfl)) (rfl) Try.underlying3 rfl ?_) | ((with_reducible refine gate_dst (N := 14) rfl ?_); refine ev_loadcell rfl 3 _ rfl (w.heap.size + 1) 2 ([vq0] ++ [vq1]) (.int .i64 z.2.2.1) ([vq3] ++ ([vq4] ++ [vq5])) rfl (E.out.box 0 rfl) (by rw [Eq.out]; first | done | rfl | (simp only [aA, aN, aL]; first | done | rfl)) (rfl) Try.underlying3 rfl ?_) | ((with_reducible refine gate_dst (N := 17) rfl ?_); refine ev_loadcell rfl 26 _ rfl w.heap.size 3 ([vp0] ++ ([vp1] ++ [.int .i64 z.2.2.1])) (vp3) ([vp4] ++ [vp5]) rfl (E.out.box 1 rfl) (by rw [Ep.out]; first | done | rfl | (simp only [aA, aN, aL]; first | done | rfl)) (rfl) Try.underlying26 rfl ?_) | ((with_reducible refine gate_dst (N := 19) rfl ?_); refine ev_loadcell rfl 26 _ rfl (w.heap.size + 1) 3 ([vq0] ++ ([vq1] ++ [.int .i64 z.2.2.1])) (vq3) ([vq4] ++ [vq5]) rfl (E.out.box 0 rfl) (by rw [Eq.out]; first | done | rfl | (simp only [aA, aN, aL]; first | done | rfl)) (rfl) Try.underlying26 rfl ?_))
 ((with_reducible refine (eqInts_c k z.2.2.2.1 _ (E.out.K Kp3.out) (E.out.K Kq3.out) F2.out).mono ?_); rintro e w2_ ⟨rfl, hb⟩)
 replace E := Aside0.mk (E.out.call hb); clear hb
 go_wp2_with (first | ((with_reducible refine gate_dst (N := 23) rfl ?_); refine ev_loadcell rfl 26 _ rfl w.heap.size 4 ([vp0] ++ ([vp1] ++ ([.int .i64 z.2.2.1] ++ [vp3]))) (vp4) [vp5] rfl (E.out.box 1 rfl) (by rw [Ep.out]; first | done | rfl | (simp only [aA, aN, aL]; first | done | rfl)) (rfl) Try.underlying26 rfl ?_) | ((with_reducible refine gate_dst (N := 25) rfl ?_); refine ev_loadcell rfl 26 _ rfl (w.heap.size + 1) 4 ([vq0] ++ ([vq1] ++ ([.int .i64 z.2.2.1] ++ [vq3]))) (vq4) [vq5] rfl (E.out.box 0 rfl) (by rw [Eq.out]; first | done | rfl | (simp only [aA, aN, aL]; first | done | rfl)) (rfl) Try.underlying26 rfl ?_))
 ((with_reducible refine (eqInts_c k z.2.2.2.2.1 _ (E.out.K Kp4.out) (E.out.K Kq4.out) F3.out).mono ?_); rintro e w3_ ⟨rfl, hb⟩)
 replace E := Aside0.mk (E.out.call hb); clear hb
 go_wp2_with (first | ((with_reducible refine gate_dst (N := 29) rfl ?_); refine ev_loadcell rfl 26 _ rfl w.heap.size 5 ([vp0] ++ ([vp1] ++ ([.int .i64 z.2.2.1] ++ ([vp3] ++ [vp4])))) (vp5) [] rfl (E.out.box 1 rfl) (by rw [Ep.out]; first | done | rfl | (simp only [aA, aN, aL]; first | done | rfl)) (rfl) Try.underlying26 rfl ?_) | ((with_reducible refine gate_dst (N := 31) rfl ?_); refine ev_loadcell rfl 26 _ rfl (w.heap.size + 1) 5 ([vq0] ++ ([vq1] ++ ([.int .i64 z.2.2.1] ++ ([vq3] ++ [vq4])))) (vq5) [] rfl (E.out.box 0 rfl) (by rw [Eq.out]; first | done | rfl | (simp only [aA, aN, aL]; first | done | rfl)) (rfl) Try.underlying26 rfl ?_))
 ((with_reducible refine (eqInts_c k z.2.2.2.2.2 _ (E.out.K Kp5.out) (E.out.K Kq5.out) F4.out).mono ?_); rintro e w4_ ⟨rfl, hb⟩)
 replace E := Aside0.mk (E.out.call hb); clear hb
 go_wp2_with fail
 go_ret
 exact ⟨rfl, E.out.below⟩
def ToWork (k : Nat) (a : (List ByteArray × List S140 × Int × List Int × List Int × List Int)) (z : (List ByteArray × List S135 × Int × List Int × List Int × List Int)) : Prop := laws_toDisk.f k a.1 a.2.1 = some (z.1, z.2.1) ∧ z.2.2.1 = a.2.2.1 ∧ laws_toIntS.f k a.2.2.2.1 = some z.2.2.2.1 ∧ laws_toIntS.f k a.2.2.2.2.1 = some z.2.2.2.2.1 ∧ laws_toIntS.f k a.2.2.2.2.2 = some z.2.2.2.2.2
theorem toWork_c (k : Nat) (a : (List ByteArray × List S140 × Int × List Int × List Int × List Int)) (z : (List ByteArray × List S135 × Int × List Int × List Int × List Int)) {cs : List Value} (w : World) (h : kWorkL.K w a cs) (hf : ToWork k a z) :
  Calls Try.prog 11 #[.agg cs.toArray] w fun e w' => ∃ ds : List Value, e = .returned (.agg ds.toArray) ∧ kWork.M w' w.heap.size (Fr w w') z ds ∧ Below w.heap.size w w' := by
 have hwp := h
 obtain ⟨cp0, _, rfl, hp0, cp1, _, rfl, hp1, cp2, _, rfl, hp2, cp3, _, rfl, hp3, cp4, cp5, rfl, hp4, hp5⟩ := h
 have gp0 := hp0; obtain ⟨A_, k_, rfl, -, -⟩ := hp0; obtain ⟨vp0, hv⟩ : ∃ v, v = Value.slice A_ (a.1).length k_ := ⟨_, rfl⟩; rw [← hv] at gp0 hwp ⊢; clear hv
 have gp1 := hp1; obtain ⟨A_, k_, rfl, -, -⟩ := hp1; obtain ⟨vp1, hv⟩ : ∃ v, v = Value.slice A_ (a.2.1).length k_ := ⟨_, rfl⟩; rw [← hv] at gp1 hwp ⊢; clear hv
 obtain rfl : cp2 = [.int .i64 a.2.2.1] := hp2
 have gp3 := hp3; obtain ⟨A_, k_, rfl, -, -⟩ := hp3; obtain ⟨vp3, hv⟩ : ∃ v, v = Value.slice A_ (a.2.2.2.1).length k_ := ⟨_, rfl⟩; rw [← hv] at gp3 hwp ⊢; clear hv
 have gp4 := hp4; obtain ⟨A_, k_, rfl, -, -⟩ := hp4; obtain ⟨vp4, hv⟩ : ∃ v, v = Value.slice A_ (a.2.2.2.2.1).length k_ := ⟨_, rfl⟩; rw [← hv] at gp4 hwp ⊢; clear hv
 have gp5 := hp5; obtain ⟨A_, k_, rfl, -, -⟩ := hp5; obtain ⟨vp5, hv⟩ : ∃ v, v = Value.slice A_ (a.2.2.2.2.2).length k_ := ⟨_, rfl⟩; rw [← hv] at gp5 hwp ⊢; clear hv
 obtain ⟨ep, he⟩ : ∃ cs, cs = [vp0] ++ ([vp1] ++ ([.int .i64 a.2.2.1] ++ ([vp3] ++ ([vp4] ++ ([vp5]))))) := ⟨_, rfl⟩; rw [← he] at hwp ⊢; have Ep := Aside0.mk he; have Wp := Aside0.mk hwp; have Np := Aside0.mk (show ep.length = 6 from Kd.K_len _ hwp); clear he hwp
 have Kp0 := Aside0.mk gp0; clear gp0
 have Kp1 := Aside0.mk gp1; clear gp1
 have Kp3 := Aside0.mk gp3; clear gp3
 have Kp4 := Aside0.mk gp4; clear gp4
 have Kp5 := Aside0.mk gp5; clear gp5
 obtain ⟨fF0, fF1, fF2, fF3, fF4⟩ := hf
 have F0 := Aside0.mk fF0; clear fF0
 have F1 := Aside0.mk fF1; clear fF1
 have F2 := Aside0.mk fF2; clear fF2
 have F3 := Aside0.mk fF3; clear fF3
 have F4 := Aside0.mk fF4; clear fF4
 have O := Aside0.mk (Nat.le_refl w.heap.size)
 have E := Aside0.mk (Env.start w)
 go_enter Try.func11, Try.ntmps11
 go_wp2_with (first | ((with_reducible refine gate_dst (N := 5) rfl ?_); replace O := Aside0.mk (And.intro E.out.le O.out); replace E := Aside0.mk (E.out.alloc ep 28 (g := w.heap.size) rfl); replace E := Aside0.mk (E.out.alloc Z34 34 (g := (w.heap.size + 1)) (by simp)); replace E := Aside0.mk (E.out.alloc Z34 34 (g := (w.heap.size + 1 + 1)) (by simp)); refine ev_loadpart rfl 25 _ rfl w.heap.size 0 [] [vp0, vp1] ([.int .i64 a.2.2.1] ++ ([vp3] ++ ([vp4] ++ [vp5]))) _ rfl (E.out.box 2 rfl) (by rw [Ep.out]; first | done | rfl | (simp only [aA, aN, aL]; first | done | rfl)) (rfl) Try.underlying25 rfl (by kernel_rfl) ?_))
 ((with_reducible refine (toDisk_c k (a.1, a.2.1) (z.1, z.2.1) _ (kDiskL_lit (E.out.K Kp0.out) (E.out.K Kp1.out)) F0.out).mono ?_); rintro e w1_ ⟨d2_, rfl, Md2_, hb⟩)
 have q := E.out.made4 O.out 2 rfl Md2_ hb; clear O E Md2_ hb; obtain ⟨n3_, m4_, Ld2_, Od2_, O, E⟩ := q
 go_wp2_with (first | ((with_reducible refine gate_store (t := 32) (p := 7) rfl ?_); refine ev_storepart rfl 32 _ _ rfl rfl (w.heap.size + 1 + 1) 0 d2_ [] [.slice none 0 0, .slice none 0 0] [.int .i64 0, .slice none 0 0, .slice none 0 0, .slice none 0 0] rfl rfl (E.out.box 1 rfl) (by first | rfl | (simp only [aA, aN, aL]; first | done | rfl)) (rfl) (by rw [Ld2_.out]; rfl) (by rw [Ld2_.out]; kernel_rfl) Od2_.out ?_; intro W5_ hp hn; replace E := E.out.put2 1 hp hn (by have o := O.out; dsimp only [Off, OffA, Fct.box, Fct.made, List.set]; and_intros <;> first | trivial | omega); clear hp hn) | ((with_reducible refine gate_dst (N := 9) rfl ?_); refine ev_loadcell rfl 3 _ rfl w.heap.size 2 ([vp0] ++ [vp1]) (.int .i64 a.2.2.1) ([vp3] ++ ([vp4] ++ [vp5])) rfl (E.out.box 3 rfl) (by rw [Ep.out]; first | done | rfl | (simp only [aA, aN, aL]; first | done | rfl)) (rfl) Try.underlying3 rfl ?_) | ((with_reducible refine gate_store (t := 3) (p := 10) rfl ?_); refine ev_storecell rfl 3 _ _ rfl rfl (w.heap.size + 1 + 1) 2 (.int .i64 a.2.2.1) (.int .i64 0) d2_ [.slice none 0 0, .slice none 0 0, .slice none 0 0] rfl rfl (E.out.box 1 rfl) (by first | rfl | (simp only [aA, aN, aL]; first | done | rfl)) (Ld2_.out) (by kernel_rfl) rfl rfl ?_; intro W6_ hp hn; replace E := E.out.put2 1 hp hn (by have o := O.out; dsimp only [Off, OffA, Fct.box, Fct.made, List.set]; and_intros <;> first | trivial | omega); clear hp hn) | ((with_reducible refine gate_dst (N := 12) rfl ?_); refine ev_loadcell rfl 26 _ rfl w.heap.size 3 ([vp0] ++ ([vp1] ++ [.int .i64 a.2.2.1])) (vp3) ([vp4] ++ [vp5]) rfl (E.out.box 3 rfl) (by rw [Ep.out]; first | done | rfl | (simp only [aA, aN, aL]; first | done | rfl)) (rfl) Try.underlying26 rfl ?_))
 ((with_reducible refine (toInts_c k a.2.2.2.1 z.2.2.2.1 _ (E.out.K Kp3.out) F2.out).mono ?_); rintro e w7_ ⟨d8_, rfl, Md8_, hb⟩)
 have q := E.out.made4 O.out 1 rfl Md8_ hb; clear O E Md8_ hb; obtain ⟨n9_, m10_, Ld8_, Od8_, O, E⟩ := q
 obtain ⟨B11_, e12_, hv, -⟩ := E.out.mk_ 0 rfl; injection hv with hv; subst hv
 go_wp2_with (first | ((with_reducible refine gate_store (t := 26) (p := 14) rfl ?_); refine ev_storecell rfl 26 _ _ rfl rfl (w.heap.size + 1 + 1) 3 (.slice B11_ z.2.2.2.1.length e12_) (.slice none 0 0) (d2_ ++ [.int .i64 a.2.2.1]) [.slice none 0 0, .slice none 0 0] rfl rfl (E.out.box 2 rfl) (by first | rfl | (simp only [aA, aN, aL]; first | done | rfl)) (by simp only [List.length_append, List.length_cons, List.length_nil, Ld2_.out]) (by kernel_rfl) rfl rfl ?_; intro W13_ hp hn; replace E := E.out.put2 2 hp hn (by have o := O.out; dsimp only [Off, OffA, Fct.box, Fct.made, List.set]; and_intros <;> first | trivial | omega); clear hp hn) | ((with_reducible refine gate_dst (N := 16) rfl ?_); refine ev_loadcell rfl 26 _ rfl w.heap.size 4 ([vp0] ++ ([vp1] ++ ([.int .i64 a.2.2.1] ++ [vp3]))) (vp4) [vp5] rfl (E.out.box 4 rfl) (by rw [Ep.out]; first | done | rfl | (simp only [aA, aN, aL]; first | done | rfl)) (rfl) Try.underlying26 rfl ?_))
 ((with_reducible refine (toInts_c k a.2.2.2.2.1 z.2.2.2.2.1 _ (E.out.K Kp4.out) F3.out).mono ?_); rintro e w14_ ⟨d15_, rfl, Md15_, hb⟩)
 have q := E.out.made4 O.out 1 rfl Md15_ hb; clear O E Md15_ hb; obtain ⟨n16_, m17_, Ld15_, Od15_, O, E⟩ := q
 obtain ⟨B18_, e19_, hv, -⟩ := E.out.mk_ 0 rfl; injection hv with hv; subst hv
 go_wp2_with (first | ((with_reducible refine gate_store (t := 26) (p := 18) rfl ?_); refine ev_storecell rfl 26 _ _ rfl rfl (w.heap.size + 1 + 1) 4 (.slice B18_ z.2.2.2.2.1.length e19_) (.slice none 0 0) (d2_ ++ ([.int .i64 a.2.2.1] ++ [.slice B11_ z.2.2.2.1.length e12_])) [.slice none 0 0] rfl rfl (E.out.box 3 rfl) (by first | rfl | (simp only [aA, aN, aL]; first | done | rfl)) (by simp only [List.length_append, List.length_cons, List.length_nil, Ld2_.out]) (by kernel_rfl) rfl rfl ?_; intro W20_ hp hn; replace E := E.out.put2 3 hp hn (by have o := O.out; dsimp only [Off, OffA, Fct.box, Fct.made, List.set]; and_intros <;> first | trivial | omega); clear hp hn) | ((with_reducible refine gate_dst (N := 20) rfl ?_); refine ev_loadcell rfl 26 _ rfl w.heap.size 5 ([vp0] ++ ([vp1] ++ ([.int .i64 a.2.2.1] ++ ([vp3] ++ [vp4])))) (vp5) [] rfl (E.out.box 5 rfl) (by rw [Ep.out]; first | done | rfl | (simp only [aA, aN, aL]; first | done | rfl)) (rfl) Try.underlying26 rfl ?_))
 ((with_reducible refine (toInts_c k a.2.2.2.2.2 z.2.2.2.2.2 _ (E.out.K Kp5.out) F4.out).mono ?_); rintro e w21_ ⟨d22_, rfl, Md22_, hb⟩)
 have q := E.out.made4 O.out 1 rfl Md22_ hb; clear O E Md22_ hb; obtain ⟨n23_, m24_, Ld22_, Od22_, O, E⟩ := q
 obtain ⟨B25_, e26_, hv, -⟩ := E.out.mk_ 0 rfl; injection hv with hv; subst hv
 obtain ⟨c28_, Ec28_, Lc28_, Oc28_⟩ := lump_ (d2_ ++ ([.int .i64 a.2.2.1] ++ ([.slice B11_ z.2.2.2.1.length e12_] ++ ([.slice B18_ z.2.2.2.2.1.length e19_] ++ [.slice B25_ z.2.2.2.2.2.length e26_])))) 6 (by simp only [List.length_append, List.length_cons, List.length_nil, Ld2_.out]) (ones_app Od2_.out (ones_app (ones1 rfl) (ones_app (ones1 rfl) (ones_app (ones1 rfl) (ones1 rfl)))))
 go_wp2_with (first | ((with_reducible refine gate_store (t := 26) (p := 22) rfl ?_); refine ev_storecell rfl 26 _ _ rfl rfl (w.heap.size + 1 + 1) 5 (.slice B25_ z.2.2.2.2.2.length e26_) (.slice none 0 0) (d2_ ++ ([.int .i64 a.2.2.1] ++ ([.slice B11_ z.2.2.2.1.length e12_] ++ [.slice B18_ z.2.2.2.2.1.length e19_]))) [] rfl rfl (E.out.box 4 rfl) (by first | rfl | (simp only [aA, aN, aL]; first | done | rfl)) (by simp only [List.length_append, List.length_cons, List.length_nil, Ld2_.out]) (by kernel_rfl) rfl rfl ?_; intro W27_ hp hn; replace E := E.out.put2 4 hp hn (by have o := O.out; dsimp only [Off, OffA, Fct.box, Fct.made, List.set]; and_intros <;> first | trivial | omega); clear hp hn) | ((with_reducible refine gate_dst (N := 23) rfl ?_); refine ev_loadpart rfl 34 _ rfl (w.heap.size + 1 + 1) 0 [] c28_ [] _ rfl (E.out.box 4 rfl) (by simp only [aA, aN, aL]; rw [Ec28_.out]; first | done | rfl | (simp only [aA, aN, aL]; first | done | rfl)) (rfl) Try.underlying34 rfl (by rw [Lc28_.out]; kernel_rfl) ?_) | ((with_reducible refine gate_store (t := 34) (p := 2) rfl ?_); refine ev_storepart rfl 34 _ _ rfl rfl (w.heap.size + 1) 0 c28_ [] Z34 [] rfl rfl (E.out.box 5 rfl) (by first | rfl | (simp only [aA, aN, aL]; first | done | rfl)) (rfl) (by rw [Lc28_.out]; rfl) (by rw [Lc28_.out]; kernel_rfl) Oc28_.out ?_; intro W29_ hp hn; replace E := E.out.put2 5 hp hn (by have o := O.out; dsimp only [Off, OffA, Fct.box, Fct.made, List.set]; and_intros <;> first | trivial | omega); clear hp hn))
 have BX := Aside0.mk (show _ = some (Obj.cells (c28_ : List Value).toArray 34 (0, 0)) from by first | exact (E.out.box 5 rfl) | simpa only [aA, aN, aL] using (E.out.box 5 rfl))
 refine bodyPost_ret (oresults_c rfl _ _ (w.heap.size + 1) 34 _ _ _ rfl BX.out Try.underlying34 rfl (by rw [List.size_toArray, show (c28_ : List Value).length = 6 from Lc28_.out]; kernel_rfl)) rfl ?_
 have e_ : ((z.1, z.2.1, a.2.2.1, z.2.2.2.1, z.2.2.2.2.1, z.2.2.2.2.2) : (List ByteArray × List S135 × Int × List Int × List Int × List Int)) = z := by (try simp only [← F1.out]) <;> rfl
 rw [← e_]
 exact ⟨_, rfl, (by rw [Ec28_.out]; exact fresh (d := kWork) (kWork_of2 (E.out.made 3 rfl) (arow_of_srow (E.out.made 2 rfl)) (arow_of_srow (E.out.made 1 rfl)) (arow_of_srow (E.out.made 0 rfl)) (fun k h1 h2 => by have o := O.out; (try simp only [Iv, true_and, or_false, false_or] at h1 h2) <;> omega) (fun k h1 h2 => by have o := O.out; (try simp only [Iv, true_and, or_false, false_or] at h1 h2) <;> omega) (fun k h1 h2 => by have o := O.out; (try simp only [Iv, true_and, or_false, false_or] at h1 h2) <;> omega)) (Nat.le_refl _)), E.out.below⟩
def EqTxn (k : Nat) (z : (S53 × (List ByteArray × List S135 × Int × List Int × List Int × List Int) × Int)) : Prop := eqMeta_c_f k z.1 z.1 = some true ∧ EqWork k z.2.1
theorem eqTxn_c (k : Nat) (z : (S53 × (List ByteArray × List S135 × Int × List Int × List Int × List Int) × Int)) {cs ds : List Value} (w : World) (h : kTxn.K w z cs) (h2 : kTxn.K w z ds) (hf : EqTxn k z) :
  Calls Try.prog 42 #[.agg cs.toArray, .agg ds.toArray] w fun e w' => e = .returned (.bool true) ∧ Below w.heap.size w w' := by
 have hwp := h
 obtain ⟨cp0, _, rfl, hp0, cp1, cp2, rfl, hp1, hp2⟩ := h
 obtain rfl : cp2 = [.int .i64 z.2.2] := hp2
 obtain ⟨ep, he⟩ : ∃ cs, cs = cp0 ++ (cp1 ++ ([.int .i64 z.2.2])) := ⟨_, rfl⟩; rw [← he] at hwp ⊢; have Ep := Aside0.mk he; have Wp := Aside0.mk hwp; have Np := Aside0.mk (show ep.length = 11 from Kd.K_len _ hwp); clear he hwp
 have Kp0 := Aside0.mk hp0; have Lp0 := Aside0.mk (show cp0.length = 4 from Kd.K_len _ hp0); clear hp0
 have Kp1 := Aside0.mk hp1; have Lp1 := Aside0.mk (show cp1.length = 6 from Kd.K_len _ hp1); clear hp1
 have hwq := h2
 obtain ⟨cq0, _, rfl, hq0, cq1, cq2, rfl, hq1, hq2⟩ := h2
 obtain rfl : cq2 = [.int .i64 z.2.2] := hq2
 obtain ⟨eq, he⟩ : ∃ cs, cs = cq0 ++ (cq1 ++ ([.int .i64 z.2.2])) := ⟨_, rfl⟩; rw [← he] at hwq ⊢; have Eq := Aside0.mk he; have Wq := Aside0.mk hwq; have Nq := Aside0.mk (show eq.length = 11 from Kd.K_len _ hwq); clear he hwq
 have Kq0 := Aside0.mk hq0; have Lq0 := Aside0.mk (show cq0.length = 4 from Kd.K_len _ hq0); clear hq0
 have Kq1 := Aside0.mk hq1; have Lq1 := Aside0.mk (show cq1.length = 6 from Kd.K_len _ hq1); clear hq1
 obtain ⟨fF0, fF1⟩ := hf
 have F0 := Aside0.mk fF0; clear fF0
 have F1 := Aside0.mk fF1; clear fF1
 have O := Aside0.mk (Nat.le_refl w.heap.size)
 have E := Aside0.mk (Env.start w)
 go_enter Try.func42, Try.ntmps42
 go_wp2_with (first | ((with_reducible refine gate_dst (N := 6) rfl ?_); replace O := Aside0.mk (And.intro E.out.le O.out); replace E := Aside0.mk (E.out.alloc ep 56 (g := w.heap.size) rfl); replace E := Aside0.mk (E.out.alloc eq 56 (g := (w.heap.size + 1)) (by simp)); refine ev_loadpart rfl 53 _ rfl w.heap.size 0 [] cp0 (cp1 ++ [.int .i64 z.2.2]) _ rfl (E.out.box 1 rfl) (by rw [Ep.out]; first | done | rfl | (simp only [aA, aN, aL]; first | done | rfl)) (rfl) Try.underlying53 rfl (by rw [Lp0.out]; kernel_rfl) ?_) | ((with_reducible refine gate_dst (N := 8) rfl ?_); refine ev_loadpart rfl 53 _ rfl (w.heap.size + 1) 0 [] cq0 (cq1 ++ [.int .i64 z.2.2]) _ rfl (E.out.box 0 rfl) (by rw [Eq.out]; first | done | rfl | (simp only [aA, aN, aL]; first | done | rfl)) (rfl) Try.underlying53 rfl (by rw [Lq0.out]; kernel_rfl) ?_))
 ((with_reducible refine (eqMeta_c k z.1 z.1 true _ (E.out.K Kp0.out) (E.out.K Kq0.out) F0.out).mono ?_); rintro e w1_ ⟨rfl, hb⟩)
 replace E := Aside0.mk (E.out.call hb); clear hb
 go_wp2_with (first | ((with_reducible refine gate_dst (N := 12) rfl ?_); refine ev_loadpart rfl 34 _ rfl w.heap.size 4 cp0 cp1 [.int .i64 z.2.2] _ rfl (E.out.box 1 rfl) (by rw [Ep.out]; first | done | rfl | (simp only [aA, aN, aL]; first | done | rfl)) (Lp0.out) Try.underlying34 rfl (by rw [Lp1.out]; kernel_rfl) ?_) | ((with_reducible refine gate_dst (N := 14) rfl ?_); refine ev_loadpart rfl 34 _ rfl (w.heap.size + 1) 4 cq0 cq1 [.int .i64 z.2.2] _ rfl (E.out.box 0 rfl) (by rw [Eq.out]; first | done | rfl | (simp only [aA, aN, aL]; first | done | rfl)) (Lq0.out) Try.underlying34 rfl (by rw [Lq1.out]; kernel_rfl) ?_))
 ((with_reducible refine (eqWork_c k z.2.1 _ (E.out.K Kp1.out) (E.out.K Kq1.out) F1.out).mono ?_); rintro e w2_ ⟨rfl, hb⟩)
 replace E := Aside0.mk (E.out.call hb); clear hb
 go_wp2_with (first | ((with_reducible refine gate_dst (N := 18) rfl ?_); refine ev_loadcell rfl 3 _ rfl w.heap.size 10 (cp0 ++ cp1) (.int .i64 z.2.2) [] rfl (E.out.box 1 rfl) (by rw [Ep.out]; first | done | rfl | (simp only [aA, aN, aL]; first | done | rfl)) (by simp only [List.length_append, List.length_cons, List.length_nil, Lp0.out, Lp1.out]) Try.underlying3 rfl ?_) | ((with_reducible refine gate_dst (N := 20) rfl ?_); refine ev_loadcell rfl 3 _ rfl (w.heap.size + 1) 10 (cq0 ++ cq1) (.int .i64 z.2.2) [] rfl (E.out.box 0 rfl) (by rw [Eq.out]; first | done | rfl | (simp only [aA, aN, aL]; first | done | rfl)) (by simp only [List.length_append, List.length_cons, List.length_nil, Lq0.out, Lq1.out]) Try.underlying3 rfl ?_))
 go_ret
 exact ⟨rfl, E.out.below⟩
def ToTxn (k : Nat) (a : (S69 × (List ByteArray × List S140 × Int × List Int × List Int × List Int) × Int)) (z : (S53 × (List ByteArray × List S135 × Int × List Int × List Int × List Int) × Int)) : Prop := laws_toMeta.f k a.1.f0 a.1.f1 a.1.f2 a.1.f3 = some (z.1.f0, z.1.f1, z.1.f2, z.1.f3) ∧ ToWork k a.2.1 z.2.1 ∧ z.2.2 = a.2.2
theorem toTxn_c (k : Nat) (a : (S69 × (List ByteArray × List S140 × Int × List Int × List Int × List Int) × Int)) (z : (S53 × (List ByteArray × List S135 × Int × List Int × List Int × List Int) × Int)) {cs : List Value} (w : World) (h : kTxnL.K w a cs) (hf : ToTxn k a z) :
  Calls Try.prog 39 #[.agg cs.toArray] w fun e w' => ∃ ds : List Value, e = .returned (.agg ds.toArray) ∧ kTxn.M w' w.heap.size (Fr w w') z ds ∧ Below w.heap.size w w' := by
 have hwp := h
 obtain ⟨cp0, _, rfl, hp0, cp1, cp2, rfl, hp1, hp2⟩ := h
 obtain rfl : cp2 = [.int .i64 a.2.2] := hp2
 obtain ⟨ep, he⟩ : ∃ cs, cs = cp0 ++ (cp1 ++ ([.int .i64 a.2.2])) := ⟨_, rfl⟩; rw [← he] at hwp ⊢; have Ep := Aside0.mk he; have Wp := Aside0.mk hwp; have Np := Aside0.mk (show ep.length = 11 from Kd.K_len _ hwp); clear he hwp
 have Kp0 := Aside0.mk hp0; have Lp0 := Aside0.mk (show cp0.length = 4 from Kd.K_len _ hp0); clear hp0
 have Kp1 := Aside0.mk hp1; have Lp1 := Aside0.mk (show cp1.length = 6 from Kd.K_len _ hp1); clear hp1
 obtain ⟨fF0, fF1, fF2⟩ := hf
 have F0 := Aside0.mk fF0; clear fF0
 have F1 := Aside0.mk fF1; clear fF1
 have F2 := Aside0.mk fF2; clear fF2
 have O := Aside0.mk (Nat.le_refl w.heap.size)
 have E := Aside0.mk (Env.start w)
 go_enter Try.func39, Try.ntmps39
 go_wp2_with (first | ((with_reducible refine gate_dst (N := 5) rfl ?_); replace O := Aside0.mk (And.intro E.out.le O.out); replace E := Aside0.mk (E.out.alloc ep 72 (g := w.heap.size) rfl); replace E := Aside0.mk (E.out.alloc Z56 56 (g := (w.heap.size + 1)) (by simp)); replace E := Aside0.mk (E.out.alloc Z56 56 (g := (w.heap.size + 1 + 1)) (by simp)); refine ev_loadpart rfl 69 _ rfl w.heap.size 0 [] cp0 (cp1 ++ [.int .i64 a.2.2]) _ rfl (E.out.box 2 rfl) (by rw [Ep.out]; first | done | rfl | (simp only [aA, aN, aL]; first | done | rfl)) (rfl) Try.underlying69 rfl (by rw [Lp0.out]; kernel_rfl) ?_))
 ((with_reducible refine (toMeta_o k a.1 z.1 _ (E.out.K Kp0.out) F0.out).mono ?_); rintro e w1_ ⟨d2_, rfl, Md2_, hb⟩)
 have q := E.out.made4 O.out 4 rfl Md2_ hb; clear O E Md2_ hb; obtain ⟨n3_, m4_, Ld2_, Od2_, O, E⟩ := q
 go_wp2_with (first | ((with_reducible refine gate_store (t := 53) (p := 7) rfl ?_); refine ev_storepart rfl 53 _ _ rfl rfl (w.heap.size + 1 + 1) 0 d2_ [] [.int .i64 0, .int .i64 0, .int .i64 0, .slice none 0 0] [.slice none 0 0, .slice none 0 0, .int .i64 0, .slice none 0 0, .slice none 0 0, .slice none 0 0, .int .i64 0] rfl rfl (E.out.box 1 rfl) (by first | rfl | (simp only [aA, aN, aL]; first | done | rfl)) (rfl) (by rw [Ld2_.out]; rfl) (by rw [Ld2_.out]; kernel_rfl) Od2_.out ?_; intro W5_ hp hn; replace E := E.out.put2 1 hp hn (by have o := O.out; dsimp only [Off, OffA, Fct.box, Fct.made, List.set]; and_intros <;> first | trivial | omega); clear hp hn) | ((with_reducible refine gate_dst (N := 9) rfl ?_); refine ev_loadpart rfl 28 _ rfl w.heap.size 4 cp0 cp1 [.int .i64 a.2.2] _ rfl (E.out.box 3 rfl) (by rw [Ep.out]; first | done | rfl | (simp only [aA, aN, aL]; first | done | rfl)) (Lp0.out) Try.underlying28 rfl (by rw [Lp1.out]; kernel_rfl) ?_))
 ((with_reducible refine (toWork_c k a.2.1 z.2.1 _ (E.out.K Kp1.out) F1.out).mono ?_); rintro e w6_ ⟨d7_, rfl, Md7_, hb⟩)
 have q := E.out.made4 O.out 6 rfl Md7_ hb; clear O E Md7_ hb; obtain ⟨n8_, m9_, Ld7_, Od7_, O, E⟩ := q
 obtain ⟨c12_, Ec12_, Lc12_, Oc12_⟩ := lump_ (d2_ ++ (d7_ ++ [.int .i64 a.2.2])) 11 (by simp only [List.length_append, List.length_cons, List.length_nil, Ld2_.out, Ld7_.out]) (ones_app Od2_.out (ones_app Od7_.out (ones1 rfl)))
 go_wp2_with (first | ((with_reducible refine gate_store (t := 34) (p := 11) rfl ?_); refine ev_storepart rfl 34 _ _ rfl rfl (w.heap.size + 1 + 1) 4 d7_ d2_ [.slice none 0 0, .slice none 0 0, .int .i64 0, .slice none 0 0, .slice none 0 0, .slice none 0 0] [.int .i64 0] rfl rfl (E.out.box 2 rfl) (by first | rfl | (simp only [aA, aN, aL]; first | done | rfl)) (Ld2_.out) (by rw [Ld7_.out]; rfl) (by rw [Ld7_.out]; kernel_rfl) Od7_.out ?_; intro W10_ hp hn; replace E := E.out.put2 2 hp hn (by have o := O.out; dsimp only [Off, OffA, Fct.box, Fct.made, List.set]; and_intros <;> first | trivial | omega); clear hp hn) | ((with_reducible refine gate_dst (N := 13) rfl ?_); refine ev_loadcell rfl 3 _ rfl w.heap.size 10 (cp0 ++ cp1) (.int .i64 a.2.2) [] rfl (E.out.box 4 rfl) (by rw [Ep.out]; first | done | rfl | (simp only [aA, aN, aL]; first | done | rfl)) (by simp only [List.length_append, List.length_cons, List.length_nil, Lp0.out, Lp1.out]) Try.underlying3 rfl ?_) | ((with_reducible refine gate_store (t := 3) (p := 14) rfl ?_); refine ev_storecell rfl 3 _ _ rfl rfl (w.heap.size + 1 + 1) 10 (.int .i64 a.2.2) (.int .i64 0) (d2_ ++ d7_) [] rfl rfl (E.out.box 2 rfl) (by first | rfl | (simp only [aA, aN, aL]; first | done | rfl)) (by simp only [List.length_append, List.length_cons, List.length_nil, Ld2_.out, Ld7_.out]) (by kernel_rfl) rfl rfl ?_; intro W11_ hp hn; replace E := E.out.put2 2 hp hn (by have o := O.out; dsimp only [Off, OffA, Fct.box, Fct.made, List.set]; and_intros <;> first | trivial | omega); clear hp hn) | ((with_reducible refine gate_dst (N := 15) rfl ?_); refine ev_loadpart rfl 56 _ rfl (w.heap.size + 1 + 1) 0 [] c12_ [] _ rfl (E.out.box 2 rfl) (by simp only [aA, aN, aL]; rw [Ec12_.out]; first | done | rfl | (simp only [aA, aN, aL]; first | done | rfl)) (rfl) Try.underlying56 rfl (by rw [Lc12_.out]; kernel_rfl) ?_) | ((with_reducible refine gate_store (t := 56) (p := 2) rfl ?_); refine ev_storepart rfl 56 _ _ rfl rfl (w.heap.size + 1) 0 c12_ [] Z56 [] rfl rfl (E.out.box 3 rfl) (by first | rfl | (simp only [aA, aN, aL]; first | done | rfl)) (rfl) (by rw [Lc12_.out]; rfl) (by rw [Lc12_.out]; kernel_rfl) Oc12_.out ?_; intro W13_ hp hn; replace E := E.out.put2 3 hp hn (by have o := O.out; dsimp only [Off, OffA, Fct.box, Fct.made, List.set]; and_intros <;> first | trivial | omega); clear hp hn))
 have BX := Aside0.mk (show _ = some (Obj.cells (c12_ : List Value).toArray 56 (0, 0)) from by first | exact (E.out.box 3 rfl) | simpa only [aA, aN, aL] using (E.out.box 3 rfl))
 refine bodyPost_ret (oresults_c rfl _ _ (w.heap.size + 1) 56 _ _ _ rfl BX.out Try.underlying56 rfl (by rw [List.size_toArray, show (c12_ : List Value).length = 11 from Lc12_.out]; kernel_rfl)) rfl ?_
 have e_ : ((z.1, z.2.1, a.2.2) : (S53 × (List ByteArray × List S135 × Int × List Int × List Int × List Int) × Int)) = z := by (try simp only [← F2.out]) <;> rfl
 rw [← e_]
 exact ⟨_, rfl, (by rw [Ec12_.out]; exact fresh (d := kTxn) (comb (E.out.made 1 rfl) (comb (E.out.made 0 rfl) Mint (fun k h1 h2 => by have o := O.out; (try simp only [Iv, true_and, or_false, false_or] at h1 h2) <;> omega)) (fun k h1 h2 => by have o := O.out; (try simp only [Iv, true_and, or_false, false_or] at h1 h2) <;> omega)) (Nat.le_refl _)), E.out.below⟩
def laws_szFree.f (a0_0 : Int) (l0_1 : List Int) (a1 : Int) : Option (Int) := (laws_szIntS.f l0_1 a1).bind fun t215 => (if t215 < 0 then (some (-1)) else (some t215))
theorem laws_szFree.calls (a0_0 : Int) (A0_1 : Option Addr) (c0_1 : Nat) (l0_1 : List Int) (a1 : Int) (r : Int) (w : World) (hr0_1 : Kd.C (Kd.int .i64) w A0_1 l0_1.length l0_1) (hc0_1 : l0_1.length ≤ c0_1) (h : laws_szFree.f a0_0 l0_1 a1 = some r) :
  Calls Try.prog 158 #[.agg #[.int .i64 a0_0, .slice A0_1 l0_1.length c0_1], .int .i64 a1] w fun e w' => e = .returned (.int .i64 r) ∧ Below w.heap.size w w' := by
 have hu183 := Try.underlying183
 have HR0_1 := Aside0.mk hr0_1
 have HC0_1 := Aside0.mk hc0_1
 clear hr0_1 hc0_1
 have HB := Aside0.mk (Below.refl w.heap.size w)
 have H : ((laws_szIntS.f l0_1 a1).bind fun t215 => (if t215 < 0 then (some (-1)) else (some t215))) = some r := h
 clear h
 replace H := Option.bind_eq_some_iff.mp H
 obtain ⟨t215, A30, H⟩ := H
 replace H : (if t215 < 0 then (some (-1)) else (some t215)) = some r := H
 have A3 := Aside0.mk A30
 clear A30
 by_cases c4 : t215 < 0
 ·rw [if_pos c4] at H
  have c4b0 : decide (t215 < 0) = true := decide_eq_true c4
  clear c4
  obtain rfl := Option.some.inj H
  go_enter Try.func158, Try.ntmps158
  go_wp2_with (first | ((with_reducible refine gate_dst (N := 2) rfl ?_); refine box_event ?hg (N := 2) ?hd (cs := #[.int .i64 a0_0, .slice A0_1 l0_1.length c0_1]) (t := 183) ?hr ?_; (case hd => rfl); (case hg => rfl); (case hr => first | (go_simp; done) | (go_simp; rfl)); intro gb214 hg w5 hbox hb; have n0_ := Aside0.mk (below_step (by repeat (first | (with_reducible first | exact HB.out | apply below_alloc | apply pw_below_drewN | apply below_drew1) | exact HB.out)) hb); have n1_ := Aside0.mk (hbox); have n2_ := Aside0.mk ((by rw [hg]; exact (below_size (by repeat (first | (with_reducible first | exact HB.out | apply below_alloc | apply pw_below_drewN | apply below_drew1) | exact HB.out))) : w.heap.size ≤ gb214)); have n3_ := Aside0.mk ((by rw [hg]; exact (below_size (by repeat (first | (with_reducible first | exact HB.out | apply below_alloc | apply pw_below_drewN | apply below_drew1) | exact HB.out))) : w.heap.size ≤ gb214)); clear HB; have HB := n0_; have BK214 := n1_; have GW214 := n2_; have GE214 := n3_; clear n0_ n1_ n2_ n3_; clear hb hbox hg; have hcz6_0 : w5.cell? ⟨gb214, 0, none⟩ = some (.int .i64 a0_0) := (blk_cell BK214.out 0).trans rfl; have hcz6_1 : w5.cell? ⟨gb214, 1, none⟩ = some (.slice A0_1 l0_1.length c0_1) := (blk_cell BK214.out 1).trans rfl; have hfz6_0 := blk_frozen BK214.out 0; have hfz6_1 := blk_frozen BK214.out 1) | ((with_reducible refine gate_callee (f := 46) rfl ?_); refine goesL_ (some 8) rfl rfl Try.func46 (by kernel_rfl) rfl #[.slice A0_1 l0_1.length c0_1, .int .i64 a1] rfl (by (try simp only [List.map_toArray, List.map_cons, List.map_nil]); first | done | rfl | (simp only [List.length_drop, List.length_take]; rfl)) ?_; (with_reducible refine (laws_szIntS.calls _ _ l0_1 a1 t215 _ ?side1 ?side2 A3.out).mono ?_); (case side1 => repeat (first | exact (Kd.C_below HR0_1.out HB.out) | (with_reducible refine Kd.C_alloc ?_ _) | (with_reducible refine Kd.C_drewN ?_ _) | (with_reducible refine Kd.C_drew ?_))); (case side2 => exact HC0_1.out); rintro e w' ⟨rfl, ⟨nd, rfl⟩⟩; refine ⟨_, rfl, ?_⟩))
  go_ret
  exact ⟨by first | rfl | (simp [errW_none, errW_some] <;> rfl) | (simp [*, errW_none, errW_some] <;> rfl), by repeat (first | (with_reducible first | exact HB.out | apply below_alloc | apply pw_below_drewN | apply below_drew1 | refine below_set ?_ GE214.out) | exact HB.out)⟩
 ·rw [if_neg c4] at H
  have c4b0 : decide (t215 < 0) = false := decide_eq_false c4
  clear c4
  obtain rfl := Option.some.inj H
  go_enter Try.func158, Try.ntmps158
  go_wp2_with (first | ((with_reducible refine gate_dst (N := 2) rfl ?_); refine box_event ?hg (N := 2) ?hd (cs := #[.int .i64 a0_0, .slice A0_1 l0_1.length c0_1]) (t := 183) ?hr ?_; (case hd => rfl); (case hg => rfl); (case hr => first | (go_simp; done) | (go_simp; rfl)); intro gb214 hg w7 hbox hb; have n0_ := Aside0.mk (below_step (by repeat (first | (with_reducible first | exact HB.out | apply below_alloc | apply pw_below_drewN | apply below_drew1) | exact HB.out)) hb); have n1_ := Aside0.mk (hbox); have n2_ := Aside0.mk ((by rw [hg]; exact (below_size (by repeat (first | (with_reducible first | exact HB.out | apply below_alloc | apply pw_below_drewN | apply below_drew1) | exact HB.out))) : w.heap.size ≤ gb214)); have n3_ := Aside0.mk ((by rw [hg]; exact (below_size (by repeat (first | (with_reducible first | exact HB.out | apply below_alloc | apply pw_below_drewN | apply below_drew1) | exact HB.out))) : w.heap.size ≤ gb214)); clear HB; have HB := n0_; have BK214 := n1_; have GW214 := n2_; have GE214 := n3_; clear n0_ n1_ n2_ n3_; clear hb hbox hg; have hcz8_0 : w7.cell? ⟨gb214, 0, none⟩ = some (.int .i64 a0_0) := (blk_cell BK214.out 0).trans rfl; have hcz8_1 : w7.cell? ⟨gb214, 1, none⟩ = some (.slice A0_1 l0_1.length c0_1) := (blk_cell BK214.out 1).trans rfl; have hfz8_0 := blk_frozen BK214.out 0; have hfz8_1 := blk_frozen BK214.out 1) | ((with_reducible refine gate_callee (f := 46) rfl ?_); refine goesL_ (some 8) rfl rfl Try.func46 (by kernel_rfl) rfl #[.slice A0_1 l0_1.length c0_1, .int .i64 a1] rfl (by (try simp only [List.map_toArray, List.map_cons, List.map_nil]); first | done | rfl | (simp only [List.length_drop, List.length_take]; rfl)) ?_; (with_reducible refine (laws_szIntS.calls _ _ l0_1 a1 t215 _ ?side1 ?side2 A3.out).mono ?_); (case side1 => repeat (first | exact (Kd.C_below HR0_1.out HB.out) | (with_reducible refine Kd.C_alloc ?_ _) | (with_reducible refine Kd.C_drewN ?_ _) | (with_reducible refine Kd.C_drew ?_))); (case side2 => exact HC0_1.out); rintro e w' ⟨rfl, ⟨nd, rfl⟩⟩; refine ⟨_, rfl, ?_⟩))
  go_ret
  exact ⟨by first | rfl | (simp [errW_none, errW_some] <;> rfl) | (simp [*, errW_none, errW_some] <;> rfl), by repeat (first | (with_reducible first | exact HB.out | apply below_alloc | apply pw_below_drewN | apply below_drew1 | refine below_set ?_ GE214.out) | exact HB.out)⟩
def laws_szFreeS.l0 : Nat → List (S183) → Int → Int → Option (Int)
 | 0, _, _, _ => none
 | k + 1, x0, x1, x5 => if x5 < (x0.length : Int) then (if 0 ≤ x5 then ((laws_szFree.f ((rd_T183 x0 x5).f0) ((rd_T183 x0 x5).f1) x1).bind fun t217 => (if t217 < 0 then (some (-1)) else (laws_szFreeS.l0 k x0 t217 (wrap64 (x5 + 1))))) else (none)) else (some x1)
def laws_szFreeS.f (k : Nat) (l0 : List (S183)) (a1 : Int) : Option (Int) := if (wrap64 (a1 - (l0.length : Int))) < 0 then (some (-1)) else (laws_szFreeS.l0 k l0 (wrap64 (a1 - (l0.length : Int))) 0)
theorem laws_szFreeS.mono_l : ∀ k, (∀ y0 y1 y2, LeO (laws_szFreeS.l0 k y0 y1 y2) (laws_szFreeS.l0 (k + 1) y0 y1 y2))
 | 0 => fun _ _ _ r h => by simp [laws_szFreeS.l0] at h
 | k + 1 => by
  have ih0 := laws_szFreeS.mono_l k
  ·intro y0 y1 y2
   unfold laws_szFreeS.l0
   repeat' first
   | (with_reducible exact ih0 _ _ _)
   | (with_reducible exact LeO.refl _)
   | (with_reducible exact LeO.none _)
   | (with_reducible refine LeO.ite ?_ ?_)
   | (with_reducible refine LeO.bind ?_ (fun _ => ?_))
   | exact ih0 _ _ _
theorem laws_szFreeS.mono : ∀ a0 a1 k, LeO (laws_szFreeS.f k a0 a1) (laws_szFreeS.f (k + 1) a0 a1) := by
 intro a0 a1 k
 have ih0 := laws_szFreeS.mono_l k
 unfold laws_szFreeS.f
 repeat' first
   | (with_reducible exact ih0 _ _ _)
   | (with_reducible exact LeO.refl _)
   | (with_reducible exact LeO.none _)
   | (with_reducible refine LeO.ite ?_ ?_)
   | (with_reducible refine LeO.bind ?_ (fun _ => ?_))
   | exact ih0 _ _ _
theorem laws_szFreeS.calls (k : Nat) (A0 : Option Addr) (c0 : Nat) (l0 : List (S183)) (a1 : Int) (r : Int) (w : World) (hr0 : Kd.C k183 w A0 l0.length l0) (hc0 : l0.length ≤ c0) (h : laws_szFreeS.f k l0 a1 = some r) :
  Calls Try.prog 130 #[.slice A0 l0.length c0, .int .i64 a1] w fun e w' => e = .returned (.int .i64 r) ∧ Below w.heap.size w w' := by
 have hu183 := Try.underlying183
 have HR0 := Aside0.mk hr0
 have HC0 := Aside0.mk hc0
 clear hr0 hc0
 have HB := Aside0.mk (Below.refl w.heap.size w)
 have H : (if (wrap64 (a1 - (l0.length : Int))) < 0 then (some (-1)) else (laws_szFreeS.l0 k l0 (wrap64 (a1 - (l0.length : Int))) 0)) = some r := h
 clear h
 by_cases c3 : (wrap64 (a1 - (l0.length : Int))) < 0
 ·rw [if_pos c3] at H
  have c3b0 : decide ((wrap64 (a1 - (l0.length : Int))) < 0) = true := decide_eq_true c3
  clear c3
  obtain rfl := Option.some.inj H
  go_enter Try.func130, Try.ntmps130
  go_wp2
  go_ret
  exact ⟨by first | rfl | (simp [errW_none, errW_some] <;> rfl) | (simp [*, errW_none, errW_some] <;> rfl), by repeat (first | (with_reducible first | exact HB.out | apply below_alloc | apply pw_below_drewN | apply below_drew1) | exact HB.out)⟩
 ·rw [if_neg c3] at H
  have c3b0 : decide ((wrap64 (a1 - (l0.length : Int))) < 0) = false := decide_eq_false c3
  clear c3
  have H' := Aside0.mk H
  clear H
  go_enter Try.func130, Try.ntmps130
  go_wp2
  go_loopg [1, 5] k (fun kq v1 v5 w' => ∃ (x1_1 : Int) (x5_1 : Int), v1 = .int .i64 x1_1 ∧ v5 = .int .i64 x5_1 ∧ Aside0 (laws_szFreeS.l0 kq l0 x1_1 x5_1 = some r) ∧ Aside0 (kq ≤ k) ∧ Aside0 (Below w.heap.size w w'))
  case atStart => exact ⟨(wrap64 (a1 - (l0.length : Int))), (0), (by first | rfl | (simp; done) | (simp [*]; done)), (by first | rfl | (simp; done) | (simp [*]; done)), H', ⟨Nat.le_refl _⟩, ⟨by repeat (first | (with_reducible first | exact HB.out | apply below_alloc | apply pw_below_drewN | apply below_drew1) | exact HB.out)⟩⟩
  case round =>
   clear H'
   try clear c3
   try clear c3b0
   obtain ⟨x1_1, x5_1, rfl, rfl, HA, HK1, HB⟩ := hrel
   cases gk with
   | zero => exact absurd HA.out (by simp [laws_szFreeS.l0])
   | succ k1 =>
    have H := HA.out
    clear HA
    simp only [laws_szFreeS.l0] at H
    by_cases c4 : x5_1 < (l0.length : Int)
    ·rw [if_pos c4] at H
     have c4b0 : decide (x5_1 < (l0.length : Int)) = true := decide_eq_true c4
     clear c4
     by_cases c5 : 0 ≤ x5_1
     ·rw [if_pos c5] at H
      have c5b0 : decide (0 ≤ x5_1) = true := decide_eq_true c5
      clear c5
      replace H := Option.bind_eq_some_iff.mp H
      obtain ⟨t217, A60, H⟩ := H
      replace H : (if t217 < 0 then (some (-1)) else (laws_szFreeS.l0 k1 l0 t217 (wrap64 (x5_1 + 1)))) = some r := H
      have A6 := Aside0.mk A60
      clear A60
      by_cases c7 : t217 < 0
      ·rw [if_pos c7] at H
       have c7b0 : decide (t217 < 0) = true := decide_eq_true c7
       clear c7
       obtain rfl := Option.some.inj H
       have p216 : 0 ≤ (x5_1 : Int) := of_decide_eq_true (by with_reducible assumption)
       have q216 : x5_1 < (l0.length : Int) := of_decide_eq_true (by with_reducible assumption)
       obtain ⟨ad216, A216_1, c216_1, e216, hx216_0, hx216_1, hl216_1, hi216_1⟩ := at_T183 HR0.out x5_1 p216 q216
       cases e216
       replace hx216_0 := (HB.out.cell (World.block_lt_of_cell? w _ hx216_0)).trans hx216_0
       replace hx216_1 := (HB.out.cell (World.block_lt_of_cell? w _ hx216_1)).trans hx216_1
       have HR216_1 := Aside0.mk hi216_1
       have HC216_1 := Aside0.mk hl216_1
       clear hi216_1 hl216_1
       replace p216 := eq_true p216
       replace q216 := eq_true q216
       go_wp2_with (first | ((with_reducible refine gate_callee (f := 158) rfl ?_); refine goesL_ (some 23) rfl rfl Try.func158 (by kernel_rfl) rfl #[.agg #[.int .i64 ((rd_T183 l0 x5_1).f0), .slice A216_1 ((rd_T183 l0 x5_1).f1).length c216_1], .int .i64 x1_1] rfl (by (try simp only [List.map_toArray, List.map_cons, List.map_nil]); first | done | rfl | (simp only [List.length_drop, List.length_take]; rfl)) ?_; (with_reducible refine (laws_szFree.calls ((rd_T183 l0 x5_1).f0) _ _ ((rd_T183 l0 x5_1).f1) x1_1 t217 _ ?side1 ?side2 A6.out).mono ?_); (case side1 => repeat (first | exact (Kd.C_below HR216_1.out HB.out) | (with_reducible refine Kd.C_alloc ?_ _) | (with_reducible refine Kd.C_drewN ?_ _) | (with_reducible refine Kd.C_drew ?_))); (case side2 => exact HC216_1.out); rintro e w8 ⟨rfl, hb⟩; refine ⟨_, rfl, ?_⟩; have n0_ := Aside0.mk (below_step (by repeat (first | (with_reducible first | exact HB.out | apply below_alloc | apply pw_below_drewN | apply below_drew1) | exact HB.out)) hb); clear HB; have HB := n0_; clear n0_; (try clear hb); (try clear hb2); (try clear hk); (try clear hi)))
       go_ret
       exact ⟨by first | rfl | (simp [errW_none, errW_some] <;> rfl) | (simp [*, errW_none, errW_some] <;> rfl), by repeat (first | (with_reducible first | exact HB.out | apply below_alloc | apply pw_below_drewN | apply below_drew1) | exact HB.out)⟩
      ·rw [if_neg c7] at H
       have c7b0 : decide (t217 < 0) = false := decide_eq_false c7
       clear c7
       have H' := Aside0.mk H
       clear H
       have p216 : 0 ≤ (x5_1 : Int) := of_decide_eq_true (by with_reducible assumption)
       have q216 : x5_1 < (l0.length : Int) := of_decide_eq_true (by with_reducible assumption)
       obtain ⟨ad216, A216_1, c216_1, e216, hx216_0, hx216_1, hl216_1, hi216_1⟩ := at_T183 HR0.out x5_1 p216 q216
       cases e216
       replace hx216_0 := (HB.out.cell (World.block_lt_of_cell? w _ hx216_0)).trans hx216_0
       replace hx216_1 := (HB.out.cell (World.block_lt_of_cell? w _ hx216_1)).trans hx216_1
       have HR216_1 := Aside0.mk hi216_1
       have HC216_1 := Aside0.mk hl216_1
       clear hi216_1 hl216_1
       replace p216 := eq_true p216
       replace q216 := eq_true q216
       go_wp2_with (first | ((with_reducible refine gate_callee (f := 158) rfl ?_); refine goesL_ (some 23) rfl rfl Try.func158 (by kernel_rfl) rfl #[.agg #[.int .i64 ((rd_T183 l0 x5_1).f0), .slice A216_1 ((rd_T183 l0 x5_1).f1).length c216_1], .int .i64 x1_1] rfl (by (try simp only [List.map_toArray, List.map_cons, List.map_nil]); first | done | rfl | (simp only [List.length_drop, List.length_take]; rfl)) ?_; (with_reducible refine (laws_szFree.calls ((rd_T183 l0 x5_1).f0) _ _ ((rd_T183 l0 x5_1).f1) x1_1 t217 _ ?side1 ?side2 A6.out).mono ?_); (case side1 => repeat (first | exact (Kd.C_below HR216_1.out HB.out) | (with_reducible refine Kd.C_alloc ?_ _) | (with_reducible refine Kd.C_drewN ?_ _) | (with_reducible refine Kd.C_drew ?_))); (case side2 => exact HC216_1.out); rintro e w9 ⟨rfl, hb⟩; refine ⟨_, rfl, ?_⟩; have n0_ := Aside0.mk (below_step (by repeat (first | (with_reducible first | exact HB.out | apply below_alloc | apply pw_below_drewN | apply below_drew1) | exact HB.out)) hb); clear HB; have HB := n0_; clear n0_; (try clear hb); (try clear hb2); (try clear hk); (try clear hi)))
       go_roundg k1
       case measure => have := HK1.out; omega
       case rel => exact ⟨(t217), (wrap64 (x5_1 + 1)), (by first | rfl | (simp; done) | (simp [*]; done)), (by first | rfl | (simp; done) | (simp [*]; done)), H', ⟨by have := HK1.out; omega⟩, ⟨by repeat (first | (with_reducible first | exact HB.out | apply below_alloc | apply pw_below_drewN | apply below_drew1) | exact HB.out)⟩⟩
     ·rw [if_neg c5] at H
      exact absurd H (by simp)
    ·rw [if_neg c4] at H
     have c4b0 : decide (x5_1 < (l0.length : Int)) = false := decide_eq_false c4
     clear c4
     obtain rfl := Option.some.inj H
     go_wp2
     go_ret
     exact ⟨by first | rfl | (simp [errW_none, errW_some] <;> rfl) | (simp [*, errW_none, errW_some] <;> rfl), by repeat (first | (with_reducible first | exact HB.out | apply below_alloc | apply pw_below_drewN | apply below_drew1) | exact HB.out)⟩
def laws_szMeta.f (k : Nat) (a0_0 : Int) (a0_1 : Int) (a0_2 : Int) (l0_3 : List (S183)) (a1 : Int) : Option (Int) := (laws_szFreeS.f k l0_3 a1).bind fun t219 => (if t219 < 0 then (some (-1)) else (some t219))
theorem laws_szMeta.mono : ∀ a0 a1 a2 a3 a4 k, LeO (laws_szMeta.f k a0 a1 a2 a3 a4) (laws_szMeta.f (k + 1) a0 a1 a2 a3 a4) := by
 intro a0 a1 a2 a3 a4 k
 unfold laws_szMeta.f
 repeat' first
   | (with_reducible exact laws_szFreeS.mono _ _ _)
   | (with_reducible exact LeO.refl _)
   | (with_reducible exact LeO.none _)
   | (with_reducible refine LeO.ite ?_ ?_)
   | (with_reducible refine LeO.bind ?_ (fun _ => ?_))
   | exact laws_szFreeS.mono _ _ _
theorem laws_szMeta.calls (k : Nat) (a0_0 : Int) (a0_1 : Int) (a0_2 : Int) (A0_3 : Option Addr) (c0_3 : Nat) (l0_3 : List (S183)) (a1 : Int) (r : Int) (w : World) (hr0_3 : Kd.C k183 w A0_3 l0_3.length l0_3) (hc0_3 : l0_3.length ≤ c0_3) (h : laws_szMeta.f k a0_0 a0_1 a0_2 l0_3 a1 = some r) :
  Calls Try.prog 76 #[.agg #[.int .i64 a0_0, .int .i64 a0_1, .int .i64 a0_2, .slice A0_3 l0_3.length c0_3], .int .i64 a1] w fun e w' => e = .returned (.int .i64 r) ∧ Below w.heap.size w w' := by
 have hu69 := Try.underlying69
 have HR0_3 := Aside0.mk hr0_3
 have HC0_3 := Aside0.mk hc0_3
 clear hr0_3 hc0_3
 have HB := Aside0.mk (Below.refl w.heap.size w)
 have H : ((laws_szFreeS.f k l0_3 a1).bind fun t219 => (if t219 < 0 then (some (-1)) else (some t219))) = some r := h
 clear h
 replace H := Option.bind_eq_some_iff.mp H
 obtain ⟨t219, A30, H⟩ := H
 replace H : (if t219 < 0 then (some (-1)) else (some t219)) = some r := H
 have A3 := Aside0.mk A30
 clear A30
 by_cases c4 : t219 < 0
 ·rw [if_pos c4] at H
  have c4b0 : decide (t219 < 0) = true := decide_eq_true c4
  clear c4
  obtain rfl := Option.some.inj H
  go_enter Try.func76, Try.ntmps76
  go_wp2_with (first | ((with_reducible refine gate_dst (N := 2) rfl ?_); refine box_event ?hg (N := 2) ?hd (cs := #[.int .i64 a0_0, .int .i64 a0_1, .int .i64 a0_2, .slice A0_3 l0_3.length c0_3]) (t := 69) ?hr ?_; (case hd => rfl); (case hg => rfl); (case hr => first | (go_simp; done) | (go_simp; rfl)); intro gb218 hg w5 hbox hb; have n0_ := Aside0.mk (below_step (by repeat (first | (with_reducible first | exact HB.out | apply below_alloc | apply pw_below_drewN | apply below_drew1) | exact HB.out)) hb); have n1_ := Aside0.mk (hbox); have n2_ := Aside0.mk ((by rw [hg]; exact (below_size (by repeat (first | (with_reducible first | exact HB.out | apply below_alloc | apply pw_below_drewN | apply below_drew1) | exact HB.out))) : w.heap.size ≤ gb218)); have n3_ := Aside0.mk ((by rw [hg]; exact (below_size (by repeat (first | (with_reducible first | exact HB.out | apply below_alloc | apply pw_below_drewN | apply below_drew1) | exact HB.out))) : w.heap.size ≤ gb218)); clear HB; have HB := n0_; have BK218 := n1_; have GW218 := n2_; have GE218 := n3_; clear n0_ n1_ n2_ n3_; clear hb hbox hg; have hcz6_0 : w5.cell? ⟨gb218, 0, none⟩ = some (.int .i64 a0_0) := (blk_cell BK218.out 0).trans rfl; have hcz6_1 : w5.cell? ⟨gb218, 1, none⟩ = some (.int .i64 a0_1) := (blk_cell BK218.out 1).trans rfl; have hcz6_2 : w5.cell? ⟨gb218, 2, none⟩ = some (.int .i64 a0_2) := (blk_cell BK218.out 2).trans rfl; have hcz6_3 : w5.cell? ⟨gb218, 3, none⟩ = some (.slice A0_3 l0_3.length c0_3) := (blk_cell BK218.out 3).trans rfl; have hfz6_0 := blk_frozen BK218.out 0; have hfz6_1 := blk_frozen BK218.out 1; have hfz6_2 := blk_frozen BK218.out 2; have hfz6_3 := blk_frozen BK218.out 3) | ((with_reducible refine gate_callee (f := 130) rfl ?_); refine goesL_ (some 8) rfl rfl Try.func130 (by kernel_rfl) rfl #[.slice A0_3 l0_3.length c0_3, .int .i64 a1] rfl (by (try simp only [List.map_toArray, List.map_cons, List.map_nil]); first | done | rfl | (simp only [List.length_drop, List.length_take]; rfl)) ?_; (with_reducible refine (laws_szFreeS.calls k _ _ l0_3 a1 t219 _ ?side1 ?side2 A3.out).mono ?_); (case side1 => repeat (first | exact (Kd.C_below HR0_3.out HB.out) | (with_reducible refine Kd.C_alloc ?_ _) | (with_reducible refine Kd.C_drewN ?_ _) | (with_reducible refine Kd.C_drew ?_))); (case side2 => exact HC0_3.out); rintro e w7 ⟨rfl, hb⟩; refine ⟨_, rfl, ?_⟩; have n0_ := Aside0.mk (blk_below (g := gb218) (o := .cells #[.int .i64 a0_0, .int .i64 a0_1, .int .i64 a0_2, .slice A0_3 l0_3.length c0_3] 69 (0, 0)) (by (with_reducible repeat (first | refine blk_drewN ?_ _ | refine blk_drew ?_ | refine blk_alloc ?_ _)); exact BK218.out) hb); have n1_ := Aside0.mk (below_step (by repeat (first | (with_reducible first | exact HB.out | apply below_alloc | apply pw_below_drewN | apply below_drew1 | refine below_set ?_ GE218.out) | exact HB.out)) hb); clear BK218; clear HB; have BK218 := n0_; have HB := n1_; clear n0_ n1_; (try clear hb); (try clear hb2); (try clear hk); (try clear hi)))
  go_ret
  exact ⟨by first | rfl | (simp [errW_none, errW_some] <;> rfl) | (simp [*, errW_none, errW_some] <;> rfl), by repeat (first | (with_reducible first | exact HB.out | apply below_alloc | apply pw_below_drewN | apply below_drew1 | refine below_set ?_ GE218.out) | exact HB.out)⟩
 ·rw [if_neg c4] at H
  have c4b0 : decide (t219 < 0) = false := decide_eq_false c4
  clear c4
  obtain rfl := Option.some.inj H
  go_enter Try.func76, Try.ntmps76
  go_wp2_with (first | ((with_reducible refine gate_dst (N := 2) rfl ?_); refine box_event ?hg (N := 2) ?hd (cs := #[.int .i64 a0_0, .int .i64 a0_1, .int .i64 a0_2, .slice A0_3 l0_3.length c0_3]) (t := 69) ?hr ?_; (case hd => rfl); (case hg => rfl); (case hr => first | (go_simp; done) | (go_simp; rfl)); intro gb218 hg w8 hbox hb; have n0_ := Aside0.mk (below_step (by repeat (first | (with_reducible first | exact HB.out | apply below_alloc | apply pw_below_drewN | apply below_drew1) | exact HB.out)) hb); have n1_ := Aside0.mk (hbox); have n2_ := Aside0.mk ((by rw [hg]; exact (below_size (by repeat (first | (with_reducible first | exact HB.out | apply below_alloc | apply pw_below_drewN | apply below_drew1) | exact HB.out))) : w.heap.size ≤ gb218)); have n3_ := Aside0.mk ((by rw [hg]; exact (below_size (by repeat (first | (with_reducible first | exact HB.out | apply below_alloc | apply pw_below_drewN | apply below_drew1) | exact HB.out))) : w.heap.size ≤ gb218)); clear HB; have HB := n0_; have BK218 := n1_; have GW218 := n2_; have GE218 := n3_; clear n0_ n1_ n2_ n3_; clear hb hbox hg; have hcz9_0 : w8.cell? ⟨gb218, 0, none⟩ = some (.int .i64 a0_0) := (blk_cell BK218.out 0).trans rfl; have hcz9_1 : w8.cell? ⟨gb218, 1, none⟩ = some (.int .i64 a0_1) := (blk_cell BK218.out 1).trans rfl; have hcz9_2 : w8.cell? ⟨gb218, 2, none⟩ = some (.int .i64 a0_2) := (blk_cell BK218.out 2).trans rfl; have hcz9_3 : w8.cell? ⟨gb218, 3, none⟩ = some (.slice A0_3 l0_3.length c0_3) := (blk_cell BK218.out 3).trans rfl; have hfz9_0 := blk_frozen BK218.out 0; have hfz9_1 := blk_frozen BK218.out 1; have hfz9_2 := blk_frozen BK218.out 2; have hfz9_3 := blk_frozen BK218.out 3) | ((with_reducible refine gate_callee (f := 130) rfl ?_); refine goesL_ (some 8) rfl rfl Try.func130 (by kernel_rfl) rfl #[.slice A0_3 l0_3.length c0_3, .int .i64 a1] rfl (by (try simp only [List.map_toArray, List.map_cons, List.map_nil]); first | done | rfl | (simp only [List.length_drop, List.length_take]; rfl)) ?_; (with_reducible refine (laws_szFreeS.calls k _ _ l0_3 a1 t219 _ ?side1 ?side2 A3.out).mono ?_); (case side1 => repeat (first | exact (Kd.C_below HR0_3.out HB.out) | (with_reducible refine Kd.C_alloc ?_ _) | (with_reducible refine Kd.C_drewN ?_ _) | (with_reducible refine Kd.C_drew ?_))); (case side2 => exact HC0_3.out); rintro e w10 ⟨rfl, hb⟩; refine ⟨_, rfl, ?_⟩; have n0_ := Aside0.mk (blk_below (g := gb218) (o := .cells #[.int .i64 a0_0, .int .i64 a0_1, .int .i64 a0_2, .slice A0_3 l0_3.length c0_3] 69 (0, 0)) (by (with_reducible repeat (first | refine blk_drewN ?_ _ | refine blk_drew ?_ | refine blk_alloc ?_ _)); exact BK218.out) hb); have n1_ := Aside0.mk (below_step (by repeat (first | (with_reducible first | exact HB.out | apply below_alloc | apply pw_below_drewN | apply below_drew1 | refine below_set ?_ GE218.out) | exact HB.out)) hb); clear BK218; clear HB; have BK218 := n0_; have HB := n1_; clear n0_ n1_; (try clear hb); (try clear hb2); (try clear hk); (try clear hi)))
  go_ret
  exact ⟨by first | rfl | (simp [errW_none, errW_some] <;> rfl) | (simp [*, errW_none, errW_some] <;> rfl), by repeat (first | (with_reducible first | exact HB.out | apply below_alloc | apply pw_below_drewN | apply below_drew1 | refine below_set ?_ GE218.out) | exact HB.out)⟩
def laws_szTxn.f (k : Nat) (a0_0 : Int) (a0_1 : Int) (a0_2 : Int) (l0_3 : List (S183)) (l0_4 : List ByteArray) (l0_5 : List (S140)) (a0_6 : Int) (l0_7 : List Int) (l0_8 : List Int) (l0_9 : List Int) (a0_10 : Int) (a1 : Int) : Option (Int) := (laws_szMeta.f k a0_0 a0_1 a0_2 l0_3 a1).bind fun t221 => (if t221 < 0 then (some (-1)) else ((laws_szWork.f k l0_4 l0_5 a0_6 l0_7 l0_8 l0_9 t221).bind fun t222 => (if t222 < 0 then (some (-1)) else (some t222))))
theorem laws_szTxn.calls (k : Nat) (a0_0 : Int) (a0_1 : Int) (a0_2 : Int) (A0_3 : Option Addr) (c0_3 : Nat) (l0_3 : List (S183)) (A0_4 : Option Addr) (c0_4 : Nat) (l0_4 : List ByteArray) (A0_5 : Option Addr) (c0_5 : Nat) (l0_5 : List (S140)) (a0_6 : Int) (A0_7 : Option Addr) (c0_7 : Nat) (l0_7 : List Int) (A0_8 : Option Addr) (c0_8 : Nat) (l0_8 : List Int) (A0_9 : Option Addr) (c0_9 : Nat) (l0_9 : List Int) (a0_10 : Int) (a1 : Int) (r : Int) (w : World) (hr0_3 : Kd.C k183 w A0_3 l0_3.length l0_3) (hc0_3 : l0_3.length ≤ c0_3) (hr0_4 : Kd.C Kd.string w A0_4 l0_4.length l0_4) (hc0_4 : l0_4.length ≤ c0_4) (hr0_5 : Kd.C k140 w A0_5 l0_5.length l0_5) (hc0_5 : l0_5.length ≤ c0_5) (hr0_7 : Kd.C (Kd.int .i64) w A0_7 l0_7.length l0_7) (hc0_7 : l0_7.length ≤ c0_7) (hr0_8 : Kd.C (Kd.int .i64) w A0_8 l0_8.length l0_8) (hc0_8 : l0_8.length ≤ c0_8) (hr0_9 : Kd.C (Kd.int .i64) w A0_9 l0_9.length l0_9) (hc0_9 : l0_9.length ≤ c0_9) (h : laws_szTxn.f k a0_0 a0_1 a0_2 l0_3 l0_4 l0_5 a0_6 l0_7 l0_8 l0_9 a0_10 a1 = some r) :
  Calls Try.prog 37 #[.agg #[.int .i64 a0_0, .int .i64 a0_1, .int .i64 a0_2, .slice A0_3 l0_3.length c0_3, .slice A0_4 l0_4.length c0_4, .slice A0_5 l0_5.length c0_5, .int .i64 a0_6, .slice A0_7 l0_7.length c0_7, .slice A0_8 l0_8.length c0_8, .slice A0_9 l0_9.length c0_9, .int .i64 a0_10], .int .i64 a1] w fun e w' => e = .returned (.int .i64 r) ∧ Below w.heap.size w w' := by
 have hu72 := Try.underlying72
 have hu69 := Try.underlying69
 have hu28 := Try.underlying28
 have HR0_3 := Aside0.mk hr0_3
 have HC0_3 := Aside0.mk hc0_3
 clear hr0_3 hc0_3
 have HR0_4 := Aside0.mk hr0_4
 have HC0_4 := Aside0.mk hc0_4
 clear hr0_4 hc0_4
 have HR0_5 := Aside0.mk hr0_5
 have HC0_5 := Aside0.mk hc0_5
 clear hr0_5 hc0_5
 have HR0_7 := Aside0.mk hr0_7
 have HC0_7 := Aside0.mk hc0_7
 clear hr0_7 hc0_7
 have HR0_8 := Aside0.mk hr0_8
 have HC0_8 := Aside0.mk hc0_8
 clear hr0_8 hc0_8
 have HR0_9 := Aside0.mk hr0_9
 have HC0_9 := Aside0.mk hc0_9
 clear hr0_9 hc0_9
 have HB := Aside0.mk (Below.refl w.heap.size w)
 have H : ((laws_szMeta.f k a0_0 a0_1 a0_2 l0_3 a1).bind fun t221 => (if t221 < 0 then (some (-1)) else ((laws_szWork.f k l0_4 l0_5 a0_6 l0_7 l0_8 l0_9 t221).bind fun t222 => (if t222 < 0 then (some (-1)) else (some t222))))) = some r := h
 clear h
 replace H := Option.bind_eq_some_iff.mp H
 obtain ⟨t221, A30, H⟩ := H
 replace H : (if t221 < 0 then (some (-1)) else ((laws_szWork.f k l0_4 l0_5 a0_6 l0_7 l0_8 l0_9 t221).bind fun t222 => (if t222 < 0 then (some (-1)) else (some t222)))) = some r := H
 have A3 := Aside0.mk A30
 clear A30
 by_cases c4 : t221 < 0
 ·rw [if_pos c4] at H
  have c4b0 : decide (t221 < 0) = true := decide_eq_true c4
  clear c4
  obtain rfl := Option.some.inj H
  go_enter Try.func37, Try.ntmps37
  go_wp2_with (first | ((with_reducible refine gate_dst (N := 2) rfl ?_); refine box_event ?hg (N := 2) ?hd (cs := #[.int .i64 a0_0, .int .i64 a0_1, .int .i64 a0_2, .slice A0_3 l0_3.length c0_3, .slice A0_4 l0_4.length c0_4, .slice A0_5 l0_5.length c0_5, .int .i64 a0_6, .slice A0_7 l0_7.length c0_7, .slice A0_8 l0_8.length c0_8, .slice A0_9 l0_9.length c0_9, .int .i64 a0_10]) (t := 72) ?hr ?_; (case hd => rfl); (case hg => rfl); (case hr => first | (go_simp; done) | (go_simp; rfl)); intro gb220 hg w5 hbox hb; have n0_ := Aside0.mk (below_step (by repeat (first | (with_reducible first | exact HB.out | apply below_alloc | apply pw_below_drewN | apply below_drew1) | exact HB.out)) hb); have n1_ := Aside0.mk (hbox); have n2_ := Aside0.mk ((by rw [hg]; exact (below_size (by repeat (first | (with_reducible first | exact HB.out | apply below_alloc | apply pw_below_drewN | apply below_drew1) | exact HB.out))) : w.heap.size ≤ gb220)); have n3_ := Aside0.mk ((by rw [hg]; exact (below_size (by repeat (first | (with_reducible first | exact HB.out | apply below_alloc | apply pw_below_drewN | apply below_drew1) | exact HB.out))) : w.heap.size ≤ gb220)); clear HB; have HB := n0_; have BK220 := n1_; have GW220 := n2_; have GE220 := n3_; clear n0_ n1_ n2_ n3_; clear hb hbox hg; have hcz6_0 : w5.cell? ⟨gb220, 0, none⟩ = some (.int .i64 a0_0) := (blk_cell BK220.out 0).trans rfl; have hcz6_1 : w5.cell? ⟨gb220, 1, none⟩ = some (.int .i64 a0_1) := (blk_cell BK220.out 1).trans rfl; have hcz6_2 : w5.cell? ⟨gb220, 2, none⟩ = some (.int .i64 a0_2) := (blk_cell BK220.out 2).trans rfl; have hcz6_3 : w5.cell? ⟨gb220, 3, none⟩ = some (.slice A0_3 l0_3.length c0_3) := (blk_cell BK220.out 3).trans rfl; have hcz6_4 : w5.cell? ⟨gb220, 4, none⟩ = some (.slice A0_4 l0_4.length c0_4) := (blk_cell BK220.out 4).trans rfl; have hcz6_5 : w5.cell? ⟨gb220, 5, none⟩ = some (.slice A0_5 l0_5.length c0_5) := (blk_cell BK220.out 5).trans rfl; have hcz6_6 : w5.cell? ⟨gb220, 6, none⟩ = some (.int .i64 a0_6) := (blk_cell BK220.out 6).trans rfl; have hcz6_7 : w5.cell? ⟨gb220, 7, none⟩ = some (.slice A0_7 l0_7.length c0_7) := (blk_cell BK220.out 7).trans rfl; have hcz6_8 : w5.cell? ⟨gb220, 8, none⟩ = some (.slice A0_8 l0_8.length c0_8) := (blk_cell BK220.out 8).trans rfl; have hcz6_9 : w5.cell? ⟨gb220, 9, none⟩ = some (.slice A0_9 l0_9.length c0_9) := (blk_cell BK220.out 9).trans rfl; have hcz6_10 : w5.cell? ⟨gb220, 10, none⟩ = some (.int .i64 a0_10) := (blk_cell BK220.out 10).trans rfl; have hfz6_0 := blk_frozen BK220.out 0; have hfz6_1 := blk_frozen BK220.out 1; have hfz6_2 := blk_frozen BK220.out 2; have hfz6_3 := blk_frozen BK220.out 3; have hfz6_4 := blk_frozen BK220.out 4; have hfz6_5 := blk_frozen BK220.out 5; have hfz6_6 := blk_frozen BK220.out 6; have hfz6_7 := blk_frozen BK220.out 7; have hfz6_8 := blk_frozen BK220.out 8; have hfz6_9 := blk_frozen BK220.out 9; have hfz6_10 := blk_frozen BK220.out 10) | ((with_reducible refine gate_callee (f := 76) rfl ?_); refine goesL_ (some 8) rfl rfl Try.func76 (by kernel_rfl) rfl #[.agg #[.int .i64 a0_0, .int .i64 a0_1, .int .i64 a0_2, .slice A0_3 l0_3.length c0_3], .int .i64 a1] rfl (by (try simp only [List.map_toArray, List.map_cons, List.map_nil]); first | done | rfl | (simp only [List.length_drop, List.length_take]; rfl)) ?_; (with_reducible refine (laws_szMeta.calls k a0_0 a0_1 a0_2 _ _ l0_3 a1 t221 _ ?side1 ?side2 A3.out).mono ?_); (case side1 => repeat (first | exact (Kd.C_below HR0_3.out HB.out) | (with_reducible refine Kd.C_alloc ?_ _) | (with_reducible refine Kd.C_drewN ?_ _) | (with_reducible refine Kd.C_drew ?_))); (case side2 => exact HC0_3.out); rintro e w7 ⟨rfl, hb⟩; refine ⟨_, rfl, ?_⟩; have n0_ := Aside0.mk (blk_below (g := gb220) (o := .cells #[.int .i64 a0_0, .int .i64 a0_1, .int .i64 a0_2, .slice A0_3 l0_3.length c0_3, .slice A0_4 l0_4.length c0_4, .slice A0_5 l0_5.length c0_5, .int .i64 a0_6, .slice A0_7 l0_7.length c0_7, .slice A0_8 l0_8.length c0_8, .slice A0_9 l0_9.length c0_9, .int .i64 a0_10] 72 (0, 0)) (by (with_reducible repeat (first | refine blk_drewN ?_ _ | refine blk_drew ?_ | refine blk_alloc ?_ _)); exact BK220.out) hb); have n1_ := Aside0.mk (below_step (by repeat (first | (with_reducible first | exact HB.out | apply below_alloc | apply pw_below_drewN | apply below_drew1 | refine below_set ?_ GE220.out) | exact HB.out)) hb); clear BK220; clear HB; have BK220 := n0_; have HB := n1_; clear n0_ n1_; (try clear hb); (try clear hb2); (try clear hk); (try clear hi)))
  go_ret
  exact ⟨by first | rfl | (simp [errW_none, errW_some] <;> rfl) | (simp [*, errW_none, errW_some] <;> rfl), by repeat (first | (with_reducible first | exact HB.out | apply below_alloc | apply pw_below_drewN | apply below_drew1 | refine below_set ?_ GE220.out) | exact HB.out)⟩
 ·rw [if_neg c4] at H
  have c4b0 : decide (t221 < 0) = false := decide_eq_false c4
  clear c4
  replace H := Option.bind_eq_some_iff.mp H
  obtain ⟨t222, A80, H⟩ := H
  replace H : (if t222 < 0 then (some (-1)) else (some t222)) = some r := H
  have A8 := Aside0.mk A80
  clear A80
  by_cases c9 : t222 < 0
  ·rw [if_pos c9] at H
   have c9b0 : decide (t222 < 0) = true := decide_eq_true c9
   clear c9
   obtain rfl := Option.some.inj H
   go_enter Try.func37, Try.ntmps37
   go_wp2_with (first | ((with_reducible refine gate_dst (N := 2) rfl ?_); refine box_event ?hg (N := 2) ?hd (cs := #[.int .i64 a0_0, .int .i64 a0_1, .int .i64 a0_2, .slice A0_3 l0_3.length c0_3, .slice A0_4 l0_4.length c0_4, .slice A0_5 l0_5.length c0_5, .int .i64 a0_6, .slice A0_7 l0_7.length c0_7, .slice A0_8 l0_8.length c0_8, .slice A0_9 l0_9.length c0_9, .int .i64 a0_10]) (t := 72) ?hr ?_; (case hd => rfl); (case hg => rfl); (case hr => first | (go_simp; done) | (go_simp; rfl)); intro gb220 hg w10 hbox hb; have n0_ := Aside0.mk (below_step (by repeat (first | (with_reducible first | exact HB.out | apply below_alloc | apply pw_below_drewN | apply below_drew1) | exact HB.out)) hb); have n1_ := Aside0.mk (hbox); have n2_ := Aside0.mk ((by rw [hg]; exact (below_size (by repeat (first | (with_reducible first | exact HB.out | apply below_alloc | apply pw_below_drewN | apply below_drew1) | exact HB.out))) : w.heap.size ≤ gb220)); have n3_ := Aside0.mk ((by rw [hg]; exact (below_size (by repeat (first | (with_reducible first | exact HB.out | apply below_alloc | apply pw_below_drewN | apply below_drew1) | exact HB.out))) : w.heap.size ≤ gb220)); clear HB; have HB := n0_; have BK220 := n1_; have GW220 := n2_; have GE220 := n3_; clear n0_ n1_ n2_ n3_; clear hb hbox hg; have hcz11_0 : w10.cell? ⟨gb220, 0, none⟩ = some (.int .i64 a0_0) := (blk_cell BK220.out 0).trans rfl; have hcz11_1 : w10.cell? ⟨gb220, 1, none⟩ = some (.int .i64 a0_1) := (blk_cell BK220.out 1).trans rfl; have hcz11_2 : w10.cell? ⟨gb220, 2, none⟩ = some (.int .i64 a0_2) := (blk_cell BK220.out 2).trans rfl; have hcz11_3 : w10.cell? ⟨gb220, 3, none⟩ = some (.slice A0_3 l0_3.length c0_3) := (blk_cell BK220.out 3).trans rfl; have hcz11_4 : w10.cell? ⟨gb220, 4, none⟩ = some (.slice A0_4 l0_4.length c0_4) := (blk_cell BK220.out 4).trans rfl; have hcz11_5 : w10.cell? ⟨gb220, 5, none⟩ = some (.slice A0_5 l0_5.length c0_5) := (blk_cell BK220.out 5).trans rfl; have hcz11_6 : w10.cell? ⟨gb220, 6, none⟩ = some (.int .i64 a0_6) := (blk_cell BK220.out 6).trans rfl; have hcz11_7 : w10.cell? ⟨gb220, 7, none⟩ = some (.slice A0_7 l0_7.length c0_7) := (blk_cell BK220.out 7).trans rfl; have hcz11_8 : w10.cell? ⟨gb220, 8, none⟩ = some (.slice A0_8 l0_8.length c0_8) := (blk_cell BK220.out 8).trans rfl; have hcz11_9 : w10.cell? ⟨gb220, 9, none⟩ = some (.slice A0_9 l0_9.length c0_9) := (blk_cell BK220.out 9).trans rfl; have hcz11_10 : w10.cell? ⟨gb220, 10, none⟩ = some (.int .i64 a0_10) := (blk_cell BK220.out 10).trans rfl; have hfz11_0 := blk_frozen BK220.out 0; have hfz11_1 := blk_frozen BK220.out 1; have hfz11_2 := blk_frozen BK220.out 2; have hfz11_3 := blk_frozen BK220.out 3; have hfz11_4 := blk_frozen BK220.out 4; have hfz11_5 := blk_frozen BK220.out 5; have hfz11_6 := blk_frozen BK220.out 6; have hfz11_7 := blk_frozen BK220.out 7; have hfz11_8 := blk_frozen BK220.out 8; have hfz11_9 := blk_frozen BK220.out 9; have hfz11_10 := blk_frozen BK220.out 10) | ((with_reducible refine gate_callee (f := 76) rfl ?_); refine goesL_ (some 8) rfl rfl Try.func76 (by kernel_rfl) rfl #[.agg #[.int .i64 a0_0, .int .i64 a0_1, .int .i64 a0_2, .slice A0_3 l0_3.length c0_3], .int .i64 a1] rfl (by (try simp only [List.map_toArray, List.map_cons, List.map_nil]); first | done | rfl | (simp only [List.length_drop, List.length_take]; rfl)) ?_; (with_reducible refine (laws_szMeta.calls k a0_0 a0_1 a0_2 _ _ l0_3 a1 t221 _ ?side1 ?side2 A3.out).mono ?_); (case side1 => repeat (first | exact (Kd.C_below HR0_3.out HB.out) | (with_reducible refine Kd.C_alloc ?_ _) | (with_reducible refine Kd.C_drewN ?_ _) | (with_reducible refine Kd.C_drew ?_))); (case side2 => exact HC0_3.out); rintro e w12 ⟨rfl, hb⟩; refine ⟨_, rfl, ?_⟩; have n0_ := Aside0.mk (blk_below (g := gb220) (o := .cells #[.int .i64 a0_0, .int .i64 a0_1, .int .i64 a0_2, .slice A0_3 l0_3.length c0_3, .slice A0_4 l0_4.length c0_4, .slice A0_5 l0_5.length c0_5, .int .i64 a0_6, .slice A0_7 l0_7.length c0_7, .slice A0_8 l0_8.length c0_8, .slice A0_9 l0_9.length c0_9, .int .i64 a0_10] 72 (0, 0)) (by (with_reducible repeat (first | refine blk_drewN ?_ _ | refine blk_drew ?_ | refine blk_alloc ?_ _)); exact BK220.out) hb); have n1_ := Aside0.mk (below_step (by repeat (first | (with_reducible first | exact HB.out | apply below_alloc | apply pw_below_drewN | apply below_drew1 | refine below_set ?_ GE220.out) | exact HB.out)) hb); clear BK220; clear HB; have BK220 := n0_; have HB := n1_; clear n0_ n1_; (try clear hb); (try clear hb2); (try clear hk); (try clear hi); have hcz13_0 : w12.cell? ⟨gb220, 0, none⟩ = some (.int .i64 a0_0) := (blk_cell BK220.out 0).trans rfl; have hcz13_1 : w12.cell? ⟨gb220, 1, none⟩ = some (.int .i64 a0_1) := (blk_cell BK220.out 1).trans rfl; have hcz13_2 : w12.cell? ⟨gb220, 2, none⟩ = some (.int .i64 a0_2) := (blk_cell BK220.out 2).trans rfl; have hcz13_3 : w12.cell? ⟨gb220, 3, none⟩ = some (.slice A0_3 l0_3.length c0_3) := (blk_cell BK220.out 3).trans rfl; have hcz13_4 : w12.cell? ⟨gb220, 4, none⟩ = some (.slice A0_4 l0_4.length c0_4) := (blk_cell BK220.out 4).trans rfl; have hcz13_5 : w12.cell? ⟨gb220, 5, none⟩ = some (.slice A0_5 l0_5.length c0_5) := (blk_cell BK220.out 5).trans rfl; have hcz13_6 : w12.cell? ⟨gb220, 6, none⟩ = some (.int .i64 a0_6) := (blk_cell BK220.out 6).trans rfl; have hcz13_7 : w12.cell? ⟨gb220, 7, none⟩ = some (.slice A0_7 l0_7.length c0_7) := (blk_cell BK220.out 7).trans rfl; have hcz13_8 : w12.cell? ⟨gb220, 8, none⟩ = some (.slice A0_8 l0_8.length c0_8) := (blk_cell BK220.out 8).trans rfl; have hcz13_9 : w12.cell? ⟨gb220, 9, none⟩ = some (.slice A0_9 l0_9.length c0_9) := (blk_cell BK220.out 9).trans rfl; have hcz13_10 : w12.cell? ⟨gb220, 10, none⟩ = some (.int .i64 a0_10) := (blk_cell BK220.out 10).trans rfl; have hfz13_0 := blk_frozen BK220.out 0; have hfz13_1 := blk_frozen BK220.out 1; have hfz13_2 := blk_frozen BK220.out 2; have hfz13_3 := blk_frozen BK220.out 3; have hfz13_4 := blk_frozen BK220.out 4; have hfz13_5 := blk_frozen BK220.out 5; have hfz13_6 := blk_frozen BK220.out 6; have hfz13_7 := blk_frozen BK220.out 7; have hfz13_8 := blk_frozen BK220.out 8; have hfz13_9 := blk_frozen BK220.out 9; have hfz13_10 := blk_frozen BK220.out 10) | ((with_reducible refine gate_callee (f := 9) rfl ?_); refine goesL_ (some 14) rfl rfl Try.func9 (by kernel_rfl) rfl #[.agg #[.slice A0_4 l0_4.length c0_4, .slice A0_5 l0_5.length c0_5, .int .i64 a0_6, .slice A0_7 l0_7.length c0_7, .slice A0_8 l0_8.length c0_8, .slice A0_9 l0_9.length c0_9], .int .i64 t221] rfl (by (try simp only [List.map_toArray, List.map_cons, List.map_nil]); first | done | rfl | (simp only [List.length_drop, List.length_take]; rfl)) ?_; (with_reducible refine (laws_szWork.calls k _ _ l0_4 _ _ l0_5 a0_6 _ _ l0_7 _ _ l0_8 _ _ l0_9 t221 t222 _ ?side1 ?side2 ?side3 ?side4 ?side5 ?side6 ?side7 ?side8 ?side9 ?side10 A8.out).mono ?_); (case side1 => repeat (first | exact (Kd.C_below HR0_4.out HB.out) | (with_reducible refine Kd.C_alloc ?_ _) | (with_reducible refine Kd.C_drewN ?_ _) | (with_reducible refine Kd.C_drew ?_))); (case side2 => exact HC0_4.out); (case side3 => repeat (first | exact (Kd.C_below HR0_5.out HB.out) | (with_reducible refine Kd.C_alloc ?_ _) | (with_reducible refine Kd.C_drewN ?_ _) | (with_reducible refine Kd.C_drew ?_))); (case side4 => exact HC0_5.out); (case side5 => repeat (first | exact (Kd.C_below HR0_7.out HB.out) | (with_reducible refine Kd.C_alloc ?_ _) | (with_reducible refine Kd.C_drewN ?_ _) | (with_reducible refine Kd.C_drew ?_))); (case side6 => exact HC0_7.out); (case side7 => repeat (first | exact (Kd.C_below HR0_8.out HB.out) | (with_reducible refine Kd.C_alloc ?_ _) | (with_reducible refine Kd.C_drewN ?_ _) | (with_reducible refine Kd.C_drew ?_))); (case side8 => exact HC0_8.out); (case side9 => repeat (first | exact (Kd.C_below HR0_9.out HB.out) | (with_reducible refine Kd.C_alloc ?_ _) | (with_reducible refine Kd.C_drewN ?_ _) | (with_reducible refine Kd.C_drew ?_))); (case side10 => exact HC0_9.out); rintro e w14 ⟨rfl, hb⟩; refine ⟨_, rfl, ?_⟩; have n0_ := Aside0.mk (blk_below (g := gb220) (o := .cells #[.int .i64 a0_0, .int .i64 a0_1, .int .i64 a0_2, .slice A0_3 l0_3.length c0_3, .slice A0_4 l0_4.length c0_4, .slice A0_5 l0_5.length c0_5, .int .i64 a0_6, .slice A0_7 l0_7.length c0_7, .slice A0_8 l0_8.length c0_8, .slice A0_9 l0_9.length c0_9, .int .i64 a0_10] 72 (0, 0)) (by (with_reducible repeat (first | refine blk_drewN ?_ _ | refine blk_drew ?_ | refine blk_alloc ?_ _)); exact BK220.out) hb); have n1_ := Aside0.mk (below_step (by repeat (first | (with_reducible first | exact HB.out | apply below_alloc | apply pw_below_drewN | apply below_drew1 | refine below_set ?_ GE220.out) | exact HB.out)) hb); clear BK220; clear HB; have BK220 := n0_; have HB := n1_; clear n0_ n1_; (try clear hb); (try clear hb2); (try clear hk); (try clear hi)))
   go_ret
   exact ⟨by first | rfl | (simp [errW_none, errW_some] <;> rfl) | (simp [*, errW_none, errW_some] <;> rfl), by repeat (first | (with_reducible first | exact HB.out | apply below_alloc | apply pw_below_drewN | apply below_drew1 | refine below_set ?_ GE220.out) | exact HB.out)⟩
  ·rw [if_neg c9] at H
   have c9b0 : decide (t222 < 0) = false := decide_eq_false c9
   clear c9
   obtain rfl := Option.some.inj H
   go_enter Try.func37, Try.ntmps37
   go_wp2_with (first | ((with_reducible refine gate_dst (N := 2) rfl ?_); refine box_event ?hg (N := 2) ?hd (cs := #[.int .i64 a0_0, .int .i64 a0_1, .int .i64 a0_2, .slice A0_3 l0_3.length c0_3, .slice A0_4 l0_4.length c0_4, .slice A0_5 l0_5.length c0_5, .int .i64 a0_6, .slice A0_7 l0_7.length c0_7, .slice A0_8 l0_8.length c0_8, .slice A0_9 l0_9.length c0_9, .int .i64 a0_10]) (t := 72) ?hr ?_; (case hd => rfl); (case hg => rfl); (case hr => first | (go_simp; done) | (go_simp; rfl)); intro gb220 hg w15 hbox hb; have n0_ := Aside0.mk (below_step (by repeat (first | (with_reducible first | exact HB.out | apply below_alloc | apply pw_below_drewN | apply below_drew1) | exact HB.out)) hb); have n1_ := Aside0.mk (hbox); have n2_ := Aside0.mk ((by rw [hg]; exact (below_size (by repeat (first | (with_reducible first | exact HB.out | apply below_alloc | apply pw_below_drewN | apply below_drew1) | exact HB.out))) : w.heap.size ≤ gb220)); have n3_ := Aside0.mk ((by rw [hg]; exact (below_size (by repeat (first | (with_reducible first | exact HB.out | apply below_alloc | apply pw_below_drewN | apply below_drew1) | exact HB.out))) : w.heap.size ≤ gb220)); clear HB; have HB := n0_; have BK220 := n1_; have GW220 := n2_; have GE220 := n3_; clear n0_ n1_ n2_ n3_; clear hb hbox hg; have hcz16_0 : w15.cell? ⟨gb220, 0, none⟩ = some (.int .i64 a0_0) := (blk_cell BK220.out 0).trans rfl; have hcz16_1 : w15.cell? ⟨gb220, 1, none⟩ = some (.int .i64 a0_1) := (blk_cell BK220.out 1).trans rfl; have hcz16_2 : w15.cell? ⟨gb220, 2, none⟩ = some (.int .i64 a0_2) := (blk_cell BK220.out 2).trans rfl; have hcz16_3 : w15.cell? ⟨gb220, 3, none⟩ = some (.slice A0_3 l0_3.length c0_3) := (blk_cell BK220.out 3).trans rfl; have hcz16_4 : w15.cell? ⟨gb220, 4, none⟩ = some (.slice A0_4 l0_4.length c0_4) := (blk_cell BK220.out 4).trans rfl; have hcz16_5 : w15.cell? ⟨gb220, 5, none⟩ = some (.slice A0_5 l0_5.length c0_5) := (blk_cell BK220.out 5).trans rfl; have hcz16_6 : w15.cell? ⟨gb220, 6, none⟩ = some (.int .i64 a0_6) := (blk_cell BK220.out 6).trans rfl; have hcz16_7 : w15.cell? ⟨gb220, 7, none⟩ = some (.slice A0_7 l0_7.length c0_7) := (blk_cell BK220.out 7).trans rfl; have hcz16_8 : w15.cell? ⟨gb220, 8, none⟩ = some (.slice A0_8 l0_8.length c0_8) := (blk_cell BK220.out 8).trans rfl; have hcz16_9 : w15.cell? ⟨gb220, 9, none⟩ = some (.slice A0_9 l0_9.length c0_9) := (blk_cell BK220.out 9).trans rfl; have hcz16_10 : w15.cell? ⟨gb220, 10, none⟩ = some (.int .i64 a0_10) := (blk_cell BK220.out 10).trans rfl; have hfz16_0 := blk_frozen BK220.out 0; have hfz16_1 := blk_frozen BK220.out 1; have hfz16_2 := blk_frozen BK220.out 2; have hfz16_3 := blk_frozen BK220.out 3; have hfz16_4 := blk_frozen BK220.out 4; have hfz16_5 := blk_frozen BK220.out 5; have hfz16_6 := blk_frozen BK220.out 6; have hfz16_7 := blk_frozen BK220.out 7; have hfz16_8 := blk_frozen BK220.out 8; have hfz16_9 := blk_frozen BK220.out 9; have hfz16_10 := blk_frozen BK220.out 10) | ((with_reducible refine gate_callee (f := 76) rfl ?_); refine goesL_ (some 8) rfl rfl Try.func76 (by kernel_rfl) rfl #[.agg #[.int .i64 a0_0, .int .i64 a0_1, .int .i64 a0_2, .slice A0_3 l0_3.length c0_3], .int .i64 a1] rfl (by (try simp only [List.map_toArray, List.map_cons, List.map_nil]); first | done | rfl | (simp only [List.length_drop, List.length_take]; rfl)) ?_; (with_reducible refine (laws_szMeta.calls k a0_0 a0_1 a0_2 _ _ l0_3 a1 t221 _ ?side1 ?side2 A3.out).mono ?_); (case side1 => repeat (first | exact (Kd.C_below HR0_3.out HB.out) | (with_reducible refine Kd.C_alloc ?_ _) | (with_reducible refine Kd.C_drewN ?_ _) | (with_reducible refine Kd.C_drew ?_))); (case side2 => exact HC0_3.out); rintro e w17 ⟨rfl, hb⟩; refine ⟨_, rfl, ?_⟩; have n0_ := Aside0.mk (blk_below (g := gb220) (o := .cells #[.int .i64 a0_0, .int .i64 a0_1, .int .i64 a0_2, .slice A0_3 l0_3.length c0_3, .slice A0_4 l0_4.length c0_4, .slice A0_5 l0_5.length c0_5, .int .i64 a0_6, .slice A0_7 l0_7.length c0_7, .slice A0_8 l0_8.length c0_8, .slice A0_9 l0_9.length c0_9, .int .i64 a0_10] 72 (0, 0)) (by (with_reducible repeat (first | refine blk_drewN ?_ _ | refine blk_drew ?_ | refine blk_alloc ?_ _)); exact BK220.out) hb); have n1_ := Aside0.mk (below_step (by repeat (first | (with_reducible first | exact HB.out | apply below_alloc | apply pw_below_drewN | apply below_drew1 | refine below_set ?_ GE220.out) | exact HB.out)) hb); clear BK220; clear HB; have BK220 := n0_; have HB := n1_; clear n0_ n1_; (try clear hb); (try clear hb2); (try clear hk); (try clear hi); have hcz18_0 : w17.cell? ⟨gb220, 0, none⟩ = some (.int .i64 a0_0) := (blk_cell BK220.out 0).trans rfl; have hcz18_1 : w17.cell? ⟨gb220, 1, none⟩ = some (.int .i64 a0_1) := (blk_cell BK220.out 1).trans rfl; have hcz18_2 : w17.cell? ⟨gb220, 2, none⟩ = some (.int .i64 a0_2) := (blk_cell BK220.out 2).trans rfl; have hcz18_3 : w17.cell? ⟨gb220, 3, none⟩ = some (.slice A0_3 l0_3.length c0_3) := (blk_cell BK220.out 3).trans rfl; have hcz18_4 : w17.cell? ⟨gb220, 4, none⟩ = some (.slice A0_4 l0_4.length c0_4) := (blk_cell BK220.out 4).trans rfl; have hcz18_5 : w17.cell? ⟨gb220, 5, none⟩ = some (.slice A0_5 l0_5.length c0_5) := (blk_cell BK220.out 5).trans rfl; have hcz18_6 : w17.cell? ⟨gb220, 6, none⟩ = some (.int .i64 a0_6) := (blk_cell BK220.out 6).trans rfl; have hcz18_7 : w17.cell? ⟨gb220, 7, none⟩ = some (.slice A0_7 l0_7.length c0_7) := (blk_cell BK220.out 7).trans rfl; have hcz18_8 : w17.cell? ⟨gb220, 8, none⟩ = some (.slice A0_8 l0_8.length c0_8) := (blk_cell BK220.out 8).trans rfl; have hcz18_9 : w17.cell? ⟨gb220, 9, none⟩ = some (.slice A0_9 l0_9.length c0_9) := (blk_cell BK220.out 9).trans rfl; have hcz18_10 : w17.cell? ⟨gb220, 10, none⟩ = some (.int .i64 a0_10) := (blk_cell BK220.out 10).trans rfl; have hfz18_0 := blk_frozen BK220.out 0; have hfz18_1 := blk_frozen BK220.out 1; have hfz18_2 := blk_frozen BK220.out 2; have hfz18_3 := blk_frozen BK220.out 3; have hfz18_4 := blk_frozen BK220.out 4; have hfz18_5 := blk_frozen BK220.out 5; have hfz18_6 := blk_frozen BK220.out 6; have hfz18_7 := blk_frozen BK220.out 7; have hfz18_8 := blk_frozen BK220.out 8; have hfz18_9 := blk_frozen BK220.out 9; have hfz18_10 := blk_frozen BK220.out 10) | ((with_reducible refine gate_callee (f := 9) rfl ?_); refine goesL_ (some 14) rfl rfl Try.func9 (by kernel_rfl) rfl #[.agg #[.slice A0_4 l0_4.length c0_4, .slice A0_5 l0_5.length c0_5, .int .i64 a0_6, .slice A0_7 l0_7.length c0_7, .slice A0_8 l0_8.length c0_8, .slice A0_9 l0_9.length c0_9], .int .i64 t221] rfl (by (try simp only [List.map_toArray, List.map_cons, List.map_nil]); first | done | rfl | (simp only [List.length_drop, List.length_take]; rfl)) ?_; (with_reducible refine (laws_szWork.calls k _ _ l0_4 _ _ l0_5 a0_6 _ _ l0_7 _ _ l0_8 _ _ l0_9 t221 t222 _ ?side1 ?side2 ?side3 ?side4 ?side5 ?side6 ?side7 ?side8 ?side9 ?side10 A8.out).mono ?_); (case side1 => repeat (first | exact (Kd.C_below HR0_4.out HB.out) | (with_reducible refine Kd.C_alloc ?_ _) | (with_reducible refine Kd.C_drewN ?_ _) | (with_reducible refine Kd.C_drew ?_))); (case side2 => exact HC0_4.out); (case side3 => repeat (first | exact (Kd.C_below HR0_5.out HB.out) | (with_reducible refine Kd.C_alloc ?_ _) | (with_reducible refine Kd.C_drewN ?_ _) | (with_reducible refine Kd.C_drew ?_))); (case side4 => exact HC0_5.out); (case side5 => repeat (first | exact (Kd.C_below HR0_7.out HB.out) | (with_reducible refine Kd.C_alloc ?_ _) | (with_reducible refine Kd.C_drewN ?_ _) | (with_reducible refine Kd.C_drew ?_))); (case side6 => exact HC0_7.out); (case side7 => repeat (first | exact (Kd.C_below HR0_8.out HB.out) | (with_reducible refine Kd.C_alloc ?_ _) | (with_reducible refine Kd.C_drewN ?_ _) | (with_reducible refine Kd.C_drew ?_))); (case side8 => exact HC0_8.out); (case side9 => repeat (first | exact (Kd.C_below HR0_9.out HB.out) | (with_reducible refine Kd.C_alloc ?_ _) | (with_reducible refine Kd.C_drewN ?_ _) | (with_reducible refine Kd.C_drew ?_))); (case side10 => exact HC0_9.out); rintro e w19 ⟨rfl, hb⟩; refine ⟨_, rfl, ?_⟩; have n0_ := Aside0.mk (blk_below (g := gb220) (o := .cells #[.int .i64 a0_0, .int .i64 a0_1, .int .i64 a0_2, .slice A0_3 l0_3.length c0_3, .slice A0_4 l0_4.length c0_4, .slice A0_5 l0_5.length c0_5, .int .i64 a0_6, .slice A0_7 l0_7.length c0_7, .slice A0_8 l0_8.length c0_8, .slice A0_9 l0_9.length c0_9, .int .i64 a0_10] 72 (0, 0)) (by (with_reducible repeat (first | refine blk_drewN ?_ _ | refine blk_drew ?_ | refine blk_alloc ?_ _)); exact BK220.out) hb); have n1_ := Aside0.mk (below_step (by repeat (first | (with_reducible first | exact HB.out | apply below_alloc | apply pw_below_drewN | apply below_drew1 | refine below_set ?_ GE220.out) | exact HB.out)) hb); clear BK220; clear HB; have BK220 := n0_; have HB := n1_; clear n0_ n1_; (try clear hb); (try clear hb2); (try clear hk); (try clear hi)))
   go_ret
   exact ⟨by first | rfl | (simp [errW_none, errW_some] <;> rfl) | (simp [*, errW_none, errW_some] <;> rfl), by repeat (first | (with_reducible first | exact HB.out | apply below_alloc | apply pw_below_drewN | apply below_drew1 | refine below_set ?_ GE220.out) | exact HB.out)⟩
def szTxn_c_f (k : Nat) (z0 : (S69 × (List ByteArray × List S140 × Int × List Int × List Int × List Int) × Int)) (a : Int) : Option Int := laws_szTxn.f k z0.1.f0 z0.1.f1 z0.1.f2 z0.1.f3 z0.2.1.1 z0.2.1.2.1 z0.2.1.2.2.1 z0.2.1.2.2.2.1 z0.2.1.2.2.2.2.1 z0.2.1.2.2.2.2.2 z0.2.2 a
theorem szTxn_c (k : Nat) (z0 : (S69 × (List ByteArray × List S140 × Int × List Int × List Int × List Int) × Int)) {cs0 : List Value} (a : Int) (r : Int) (w : World) (h0 : kTxnL.K w z0 cs0) (hf : szTxn_c_f k z0 a = some r) :
  Calls Try.prog 37 #[.agg cs0.toArray, .int .i64 a] w fun e w' => e = .returned (.int .i64 r) ∧ Below w.heap.size w w' := by
 obtain ⟨y_0, ⟨l_00, l_01, l_02, l_03, l_04, l_05⟩, n_0⟩ := z0
 obtain ⟨u_00_, _, rfl, g_00, u_01_, u_02_, rfl, g_01, g_02⟩ := h0
 obtain ⟨A_00, c_00, rfl, m_00, r_00⟩ := k69_open g_00
 obtain ⟨A_010, c_010, A_011, c_011, A_013, c_013, A_014, c_014, A_015, c_015, rfl, m_010, r_010, m_011, r_011, m_013, r_013, m_014, r_014, m_015, r_015⟩ := kWorkL_open g_01
 obtain rfl : u_02_ = [.int .i64 n_0] := g_02
 exact laws_szTxn.calls k y_0.f0 y_0.f1 y_0.f2 A_00 c_00 y_0.f3 A_010 c_010 l_00 A_011 c_011 l_01 l_02 A_013 c_013 l_03 A_014 c_014 l_04 A_015 c_015 l_05 n_0 a r w r_00 m_00 r_010 m_010 r_011 m_011 r_013 m_013 r_014 m_014 r_015 m_015 hf
theorem Env.mbound {w0 W : World} {top : Nat} {fs : List Fct} (E : Env w0 W top fs) (i : Nat) {α : Type} {d : Kd α} {base lo hi : Nat} {ok : Nat → Prop} {x : α} {cs : List Value} (hf : fs[i]? = some (Fct.made d base lo hi ok x cs)) : ∀ k, ok k ∧ Iv lo hi k → k < W.heap.size :=
 fun k hk => Nat.lt_of_lt_of_le hk.2.2 (Nat.le_trans (All.get i E.all hf).1 E.le)
theorem Env.marked {w0 W W' : World} {top : Nat} {fs : List Fct} (E : Env w0 W top fs) (i : Nat) {α : Type} {d : Kd α} {lo hi : Nat} {ok : Nat → Prop} {x x' : α} {cs : List Value} (hf : fs[i]? = some (Fct.made d w0.heap.size lo hi ok x cs)) (M : d.M W' w0.heap.size (fun k => ok k ∧ Iv lo hi k) x' cs) (hB : Below w0.heap.size w0 W') (hK : Kept W W' (fun k => ok k ∧ Iv lo hi k)) (ho : Off2 lo hi fs i) : Env w0 W' top (fs.set i (Fct.made d w0.heap.size lo hi ok x' cs)) :=
 ⟨hB, Nat.le_trans E.le hK.1, E.ge, All.off2 (fun k hk h2 => hK.2 k (Nat.lt_of_lt_of_le hk E.le) (fun h => by have h3 := h.2.1; have h4 := h.2.2; omega)) (Nat.le_refl _) (f' := Fct.made d w0.heap.size lo hi ok x' cs) (show hi ≤ top from (All.get i E.all hf).1) M i E.all ho⟩
theorem eqI_ev1 (l : List Int) (h : l.length ≤ 1048576) : Ev (fun k => laws_eqIntS.f k l l) true := eqI_ev l (by omega)
theorem rd_T183_nat (xs : List S183) (k : Nat) (hk : k < xs.length) : rd_T183 xs (k : Int) = xs[k] := by
 simp [rd_T183, List.getD_eq_getElem?_getD, List.getElem?_eq_getElem hk]
def sumF (l : List S183) : Nat := ((l.map S183.f1).flatten).length
theorem sumF_cons (x : S183) (l : List S183) : sumF (x :: l) = x.f1.length + sumF l := by simp [sumF]
theorem szF_go (l : List S183) (hs : ∀ s ∈ l, s.f1.length ≤ 9223372036854775807) (hl : l.length ≤ 9223372036854775807) : ∀ (n i : Nat) (x : Int), i + n = l.length → 0 ≤ x → x ≤ 1048576 → ∃ r, laws_szFreeS.l0 (n + 1) l x (i : Int) = some r ∧ (r < 0 ∨ (0 ≤ r ∧ r ≤ x ∧ (sumF (l.drop i) : Int) ≤ x)) := by
 intro n
 induction n with
 | zero =>
  intro i x hi h0 h1
  refine ⟨x, ?_, .inr ⟨h0, Int.le_refl _, by rw [List.drop_eq_nil_of_le (by omega)]; simpa [sumF] using h0⟩⟩
  rw [laws_szFreeS.l0, if_neg (by omega)]
 | succ n ih =>
  intro i x hi h0 h1
  have hlt : i < l.length := by omega
  have hsz := hs l[i] (List.getElem_mem hlt)
  have hdr : sumF (l.drop i) = l[i].f1.length + sumF (l.drop (i + 1)) := by rw [List.drop_eq_getElem_cons hlt, sumF_cons]
  rw [laws_szFreeS.l0, if_pos (by omega), if_pos (by omega), rd_T183_nat _ _ hlt, laws_szFree.f, laws_szIntS.f, wrap_in (x := x - _) (by omega) (by omega), wrap_in (x := (i : Int) + 1) (by omega) (by omega)]
  by_cases hneg : x - (l[i].f1.length : Int) < 0
  ·rw [if_pos hneg, Option.bind_some, if_pos (by omega), Option.bind_some, if_pos (by omega)]
   exact ⟨-1, rfl, .inl (by omega)⟩
  ·rw [if_neg hneg, Option.bind_some, if_neg hneg, Option.bind_some, if_neg hneg]
   obtain ⟨r, h2, h3⟩ := ih (i + 1) (x - (l[i].f1.length : Int)) (by omega) (by omega) (by omega)
   refine ⟨r, by rw [show (i : Int) + 1 = ((i + 1 : Nat) : Int) by omega]; exact h2, ?_⟩
   rcases h3 with h3 | ⟨h4, h5, h6⟩
   ·exact .inl h3
   ·exact .inr ⟨h4, by omega, by rw [hdr]; omega⟩
theorem szM_ev (m0 m1 m2 : Int) (l : List S183) (hs : ∀ s ∈ l, s.f1.length ≤ 9223372036854775807) (hl : l.length ≤ 9223372036854775807) (x : Int) (h0 : 0 ≤ x) (h1 : x ≤ 1048576) : ∃ r, Ev (fun k => laws_szMeta.f k m0 m1 m2 l x) r ∧ (r < 0 ∨ (¬ r < 0 ∧ r ≤ x ∧ l.length ≤ 1048576 ∧ sumF l ≤ 1048576)) := by
 by_cases hneg : x - (l.length : Int) < 0
 ·refine ⟨-1, Ev.of (k := 0) (fun k => laws_szMeta.mono _ _ _ _ _ k) ?_, .inl (by omega)⟩
  unfold laws_szMeta.f laws_szFreeS.f
  rw [wrap_in (by omega) (by omega), if_pos hneg, Option.bind_some, if_pos (by omega)]
 ·obtain ⟨r, h2, h3⟩ := szF_go l hs hl l.length 0 (x - (l.length : Int)) (by omega) (by omega) (by omega)
  have hev : ∀ r', (laws_szFreeS.l0 (l.length + 1) l (x - (l.length : Int)) 0 = some r) → (if r < 0 then -1 else r) = r' → Ev (fun k => laws_szMeta.f k m0 m1 m2 l x) r' := fun r' h e => by
   refine Ev.of (k := l.length + 1) (fun k => laws_szMeta.mono _ _ _ _ _ k) ?_
   unfold laws_szMeta.f laws_szFreeS.f
   rw [wrap_in (by omega) (by omega), if_neg hneg, h, Option.bind_some, ← e]
   split <;> rfl
  rcases h3 with h3 | ⟨h4, h5, h6⟩
  ·exact ⟨-1, hev _ h2 (if_pos h3), .inl (by omega)⟩
  ·refine ⟨r, hev _ h2 (if_neg (by omega)), .inr ⟨by omega, by omega, by omega, ?_⟩⟩
   rw [List.drop_zero] at h6
   omega
theorem sumF_mem (l : List S183) (s : S183) (h : s ∈ l) : s.f1.length ≤ sumF l := by
 induction l with
 | nil => cases h
 | cons x l ih =>
  rw [sumF_cons]
  rcases List.mem_cons.1 h with rfl | h
  ·omega
  ·have := ih h; omega
def convF (x : S183) : S122 := ⟨x.f0, x.f1⟩
theorem toF_go (l : List S183) (hl : l.length ≤ 1048576) (hs : ∀ s ∈ l, s.f1.length ≤ 1048576) : ∀ (n i : Nat), i + n = l.length → Ev (fun k => laws_toFreeS.l0 k l ((l.map convF).take i ++ List.replicate n z122) (i : Int)) (l.map convF) := by
 intro n
 induction n with
 | zero =>
  intro i hi
  refine Ev.step (f := fun _ => some (l.map convF)) (fun k => ?_) (Ev.now _)
  rw [laws_toFreeS.l0, if_neg (by omega), List.replicate_zero, List.append_nil, List.take_of_length_le (by rw [List.length_map]; omega)]
 | succ n ih =>
  intro i hi
  have hlt : i < l.length := by omega
  have hlt' : i < (l.map convF).length := by rw [List.length_map]; exact hlt
  have hti : ((l.map convF).take i).length = i := by rw [List.length_take, List.length_map]; omega
  refine Ev.step (f := fun k => (laws_toIntS.f k l[i].f1).bind fun t => laws_toFreeS.l0 k l (((l.map convF).take i ++ z122 :: List.replicate n z122).set i ⟨l[i].f0, t⟩) ((i + 1 : Nat) : Int)) (fun k => ?_) (Ev.bind (toI_ev _ (hs _ (List.getElem_mem hlt))) ?_)
  ·rw [laws_toFreeS.l0, if_pos (by omega), if_pos (by omega), rd_T183_nat _ _ hlt, laws_toFree.f, wrap_in (by omega) (by omega), Int.toNat_natCast, List.replicate_succ]
   cases laws_toIntS.f k l[i].f1 with
   | none => rfl
   | some t =>
    simp only [Option.bind_some]
    rw [if_pos (by simp; omega)]
    rfl
  ·have := set_front ((l.map convF).take i) (List.replicate n z122) z122 (convF l[i])
   rw [hti] at this
   show Ev (fun k => laws_toFreeS.l0 k l (((l.map convF).take i ++ z122 :: List.replicate n z122).set i (convF l[i])) _) _
   rw [this, show convF l[i] = (l.map convF)[i] by rw [List.getElem_map], List.take_append_getElem hlt']
   exact ih (i + 1) (by omega)
theorem toM_ev (m0 m1 m2 : Int) (l : List S183) (hl : l.length ≤ 1048576) (hs : ∀ s ∈ l, s.f1.length ≤ 1048576) : Ev (fun k => laws_toMeta.f k m0 m1 m2 l) (m0, m1, m2, l.map convF) := by
 refine Ev.bind (a := l.map convF) ?_ (Ev.now _)
 have h := toF_go l hl hs l.length 0 (by omega)
 refine Ev.congr (f := fun k => laws_toFreeS.l0 k l ((l.map convF).take 0 ++ List.replicate l.length z122) 0) (fun k => ?_) h
 unfold laws_toFreeS.f
 rw [if_pos (by omega), if_pos (by rw [Int.toNat_natCast]; omega), Int.toNat_natCast, List.take_zero, List.nil_append]
theorem rd_T122_nat (xs : List S122) (k : Nat) (hk : k < xs.length) : rd_T122 xs (k : Int) = xs[k] := by
 simp [rd_T122, List.getD_eq_getElem?_getD, List.getElem?_eq_getElem hk]
theorem eqF_go (l : List S122) (hl : l.length ≤ 1048576) (hs : ∀ s ∈ l, s.f1.length ≤ 1048576) : ∀ (n i : Nat), i + n = l.length → Ev (fun k => laws_eqFreeS.l0 k l l (i : Int)) true := by
 intro n
 induction n with
 | zero =>
  intro i hi
  exact Ev.step (f := fun _ => some true) (fun k => by rw [laws_eqFreeS.l0, if_neg (by omega)]) (Ev.now _)
 | succ n ih =>
  intro i hi
  have hlt : i < l.length := by omega
  refine Ev.step (f := fun k => (laws_eqIntS.f k l[i].f1 l[i].f1).bind fun t => if t = true then laws_eqFreeS.l0 k l l ((i + 1 : Nat) : Int) else none) (fun k => ?_) (Ev.bind (eqI_ev1 _ (hs _ (List.getElem_mem hlt))) ?_)
  ·rw [laws_eqFreeS.l0, if_pos (by omega), if_pos (by omega), if_pos (by omega), rd_T122_nat _ _ hlt, laws_eqFree.f, if_pos rfl, wrap_in (by omega) (by omega)]
   cases laws_eqIntS.f k l[i].f1 l[i].f1 with
   | none => rfl
   | some t => cases t <;> rfl
  ·simp only [if_true]
   exact ih (i + 1) (by omega)
theorem eqM_ev (m0 m1 m2 : Int) (l : List S122) (hl : l.length ≤ 1048576) (hs : ∀ s ∈ l, s.f1.length ≤ 1048576) : Ev (fun k => laws_eqMeta.f k m0 m1 m2 l m0 m1 m2 l) true := by
 have h := eqF_go l hl hs l.length 0 (by omega)
 refine Ev.congr (f := fun k => (laws_eqFreeS.l0 k l l 0).bind fun t => if t = true then some true else none) (fun k => ?_) (Ev.bind h (Ev.now _))
 unfold laws_eqMeta.f laws_eqFreeS.f
 rw [if_pos rfl, if_pos rfl, if_pos rfl, if_pos rfl]
def OKm (l : List S183) : Prop := l.length ≤ 1048576 ∧ ∀ s ∈ l, s.f1.length ≤ 1048576
def INm (l : List S183) : Prop := (∀ s ∈ l, s.f1.length ≤ 9223372036854775807) ∧ l.length ≤ 9223372036854775807
theorem szMx (m0 m1 m2 : Int) (l : List S183) (h : INm l) (x : Int) (h0 : 0 ≤ x) (hx : x ≤ 1048576) : ∃ r, Ev (fun k => laws_szMeta.f k m0 m1 m2 l x) r ∧ (r < 0 ∨ (0 ≤ r ∧ r ≤ x ∧ OKm l)) := by
 obtain ⟨r, e, hr⟩ := szM_ev m0 m1 m2 l h.1 h.2 x h0 hx
 refine ⟨r, e, ?_⟩
 rcases hr with hr | ⟨a, b, c, d⟩
 ·exact .inl hr
 ·exact .inr ⟨by omega, b, c, fun s hs => Nat.le_trans (sumF_mem l s hs) d⟩
def OKn (l : List S122) : Prop := l.length ≤ 1048576 ∧ ∀ s ∈ l, s.f1.length ≤ 1048576
theorem OKn_conv {l : List S183} (h : OKm l) : OKn (l.map convF) := ⟨by rw [List.length_map]; exact h.1, fun s hs => by obtain ⟨y, hy, rfl⟩ := List.mem_map.1 hs; exact h.2 y hy⟩
theorem szTx (a b c : Int) (fr : List S183) (pages : List ByteArray) (late : List S140) (n : Int) (u g f : List Int) (q : Int) (hm : INm fr) (hd : INd pages late) (hu : INi u) (hg : INi g) (hf : INi f) (x : Int) (h0 : 0 ≤ x) (hx : x ≤ 1048576) : ∃ r, Ev (fun k => laws_szTxn.f k a b c fr pages late n u g f q x) r ∧ (r < 0 ∨ (0 ≤ r ∧ r ≤ x ∧ OKm fr ∧ Small pages late ∧ u.length ≤ 1048576 ∧ g.length ≤ 1048576 ∧ f.length ≤ 1048576)) := by
 unfold laws_szTxn.f
 exact sz_step (szMx a b c fr hm x h0 hx) fun y y0 y1 => sz_end (szWx pages late n u g f hd hu hg hf y y0 (by omega))
theorem mhF : ∀ (n i : Nat) (l : List S122) (a : Int), i + n = l.length → 0 < a → a + n * 1048577 < 4000000000000000000 → l.length ≤ 2000000 → (∀ j (h : j < l.length), i ≤ j → l[j].f1.length ≤ 1048576) → ∃ l' c, 0 ≤ c ∧ c ≤ (n : Int) * 1048577 ∧ Ev (fun k => markF.l0 k l a (i : Int)) (a + c, l') ∧ l'.length = l.length ∧ (∀ j, j < i → l'[j]? = l[j]?) ∧ Ev (fun k => laws_heldFreeS.l0 k l' a (i : Int)) (a + c) := by
 intro n
 induction n with
 | zero =>
  intro i l a hi h0 h1 hl hs
  refine ⟨l, 0, by omega, by omega, Ev.step (f := fun _ => some (a + 0, l)) (fun k => ?_) (Ev.now _), rfl, fun _ _ => rfl, Ev.step (f := fun _ => some (a + 0)) (fun k => ?_) (Ev.now _)⟩
  ·rw [markF.l0, if_neg (by omega)]
   simp
  ·rw [laws_heldFreeS.l0, if_neg (by omega)]
   simp
 | succ n ih =>
  intro i l a hi h0 h1 hl hs
  have hlt0 : i < l.length := by omega
  have hsi := hs i hlt0 (Nat.le_refl _)
  obtain ⟨p, g1, g2⟩ := mhI_ev l[i].f1 (a + 1) (by omega) (by omega) (by omega)
  obtain ⟨l', c, c0, c1, e1, e2, e3, e4⟩ := ih (i + 1) (l.set i (⟨a, p⟩ : S122)) (a + 1 + l[i].f1.length) (by rw [List.length_set]; omega) (by omega) (by omega) (by rw [List.length_set]; exact hl) (fun j h hj => by
   rw [List.length_set] at h
   rw [List.getElem_set_ne (by omega)]
   exact hs j h (by omega))
  rw [List.length_set] at e2
  have hlt : i < l'.length := by omega
  have hat : l'[i]? = some (⟨a, p⟩ : S122) := by rw [e3 i (Nat.lt_succ_self i), List.getElem?_set_self (by omega)]
  have hget : l'[i] = (⟨a, p⟩ : S122) := by rw [List.getElem?_eq_getElem hlt] at hat; exact Option.some.inj hat
  have hn : a + 1 + (l[i].f1.length : Int) + c = a + (1 + (l[i].f1.length : Int) + c) := by omega
  rw [hn] at e1 e4
  refine ⟨l', 1 + (l[i].f1.length : Int) + c, by omega, by omega, Ev.step (f := fun k => (laws_markIntS.f k l[i].f1 (a + 1)).bind fun b => markF.l0 k (l.set i (⟨a, b.2⟩ : S122)) b.1 ((i + 1 : Nat) : Int)) (fun k => ?_) (Ev.bind g1 e1), e2, fun j hj => ?_, Ev.step (f := fun k => (laws_heldIntS.f k p (a + 1)).bind fun t => if t < 0 then none else laws_heldFreeS.l0 k l' t ((i + 1 : Nat) : Int)) (fun k => ?_) (Ev.bind g2 (by simp only [if_neg (show ¬ a + 1 + (l[i].f1.length : Int) < 0 by omega)]; exact e4))⟩
  ·rw [markF.l0, if_pos (by omega), if_pos (by omega), rd_T122_nat _ _ hlt0, wrap_in (x := a + 1) (by omega) (by omega), wrap_in (x := (i : Int) + 1) (by omega) (by omega), Int.toNat_natCast]
   rfl
  ·rw [e3 j (by omega), List.getElem?_set_ne (by omega)]
  ·rw [laws_heldFreeS.l0, if_pos (by omega), if_pos (by omega), rd_T122_nat _ _ hlt, hget, if_pos rfl, wrap_in (x := a + 1) (by omega) (by omega), wrap_in (x := (i : Int) + 1) (by omega) (by omega)]
   rfl
theorem mhF_ev (l : List S122) (a : Int) (h0 : 0 < a) (h1 : a + l.length * 1048577 < 4000000000000000000) (hl : OKn l) : ∃ l' c, 0 ≤ c ∧ c ≤ (l.length : Int) * 1048577 ∧ Ev (fun k => markF.l0 k l a 0) (a + c, l') ∧ Ev (fun k => laws_heldFreeS.f k l' a) (a + c) := by
 obtain ⟨l', c, c0, c1, e1, _, _, e4⟩ := mhF l.length 0 l a (by omega) h0 h1 (by have := hl.1; omega) (fun j h _ => hl.2 _ (List.getElem_mem h))
 exact ⟨l', c, c0, c1, e1, e4⟩
def EvP (P : Nat → Prop) : Prop := ∃ K, ∀ k, K ≤ k → P k
theorem EvP.and {P Q : Nat → Prop} (h : EvP P) (h2 : EvP Q) : EvP (fun k => P k ∧ Q k) := by
 obtain ⟨K, h⟩ := h
 obtain ⟨J, h2⟩ := h2
 exact ⟨K + J, fun k hk => ⟨h k (by omega), h2 k (by omega)⟩⟩
theorem EvP.now {P : Prop} (h : P) : EvP (fun _ => P) := ⟨0, fun _ _ => h⟩
theorem EvP.imp {P Q : Nat → Prop} (h : EvP P) (hi : ∀ k, P k → Q k) : EvP Q := by
 obtain ⟨K, h⟩ := h
 exact ⟨K, fun k hk => hi k (h k hk)⟩
theorem EvP.of {α : Type} {f : Nat → Option α} {r : α} (h : Ev f r) : EvP (fun k => f k = some r) := h
def convM (x : S69) : S53 := ⟨x.f0, x.f1, x.f2, x.f3.map convF⟩
def MHead (x : S53) : Prop := (0 ≤ x.f0 ∧ x.f0 ≤ 100000) ∧ (2 ≤ x.f2 ∧ x.f2 ≤ 40) ∧ (x.f1 = 0 ∨ (2 ≤ x.f1 ∧ x.f1 ≤ x.f2 - 1)) ∧ x.f3.length ≤ 20
def FrHead (x : S53) (i : Nat) (f : S122) : Prop := (1 ≤ f.f0 ∧ f.f0 ≤ x.f0) ∧ (∀ g : S122, 0 < i → x.f3[i - 1]? = some g → g.f0 < f.f0) ∧ (1 ≤ f.f1.length ∧ f.f1.length ≤ 40)
def PgOk (x : S53) (seen ps : List Int) (k : Nat) (p : Int) : Prop := (2 ≤ p ∧ p ≤ x.f2 - 1) ∧ (∀ q : Int, 0 < k → ps[k - 1]? = some q → q < p) ∧ p ∉ seen ++ ps.take k
def seenAt (x : S53) (i : Nat) : List Int := x.f1 :: (x.f3.take i).flatMap (·.f1)
def FrPages (x : S53) (i : Nat) (f : S122) : Prop := ∀ k p, f.f1[k]? = some p → PgOk x (seenAt x i) f.f1 k p
def MOk (x : S53) : Prop := MHead x ∧ ∀ i f, x.f3[i]? = some f → FrHead x i f ∧ FrPages x i f
theorem seen_succ {x : S53} {i : Nat} {f : S122} (h : x.f3[i]? = some f) : seenAt x (i + 1) = seenAt x i ++ f.f1 := by
 obtain ⟨hi, rfl⟩ := List.getElem?_eq_some_iff.1 h
 show x.f1 :: (x.f3.take (i + 1)).flatMap (·.f1) = (x.f1 :: (x.f3.take i).flatMap (·.f1)) ++ x.f3[i].f1
 rw [List.take_succ_eq_append_getElem hi, List.flatMap_append]
 show _ :: (_ ++ (x.f3[i].f1 ++ [])) = _ :: (_ ++ _)
 rw [List.append_nil]
def inB (a lo hi : Int) : Bool := decide (lo ≤ a) && decide (a ≤ hi)
theorem inB_t {a lo hi : Int} (h : lo ≤ a ∧ a ≤ hi) : inB a lo hi = true := by simp [inB, h.1, h.2]
theorem inB_f {a lo hi : Int} (h : ¬ (lo ≤ a ∧ a ≤ hi)) : inB a lo hi = false := by
 simp only [inB, Bool.and_eq_false_iff, decide_eq_false_iff_not]
 omega
theorem inB_at {a lo hi : Int} (h : lo ≤ a) : decide (a ≤ hi) = inB a lo hi := by simp [inB, h]
theorem inB_af {a lo hi : Int} (h : ¬ lo ≤ a) : false = inB a lo hi := by simp only [inB, h, decide_false, Bool.false_and]
theorem rb {a b : Bool} (h : a = b) : Ending.returned (.bool a) = .returned (.bool b) := by rw [h]
def hasB (l : List Int) (x : Int) : Bool := decide (x ∈ l)
theorem inS (a lo hi : Int) (w : World) : Calls Try.prog 108 #[.int .i64 a, .int .i64 lo, .int .i64 hi] w fun e w' => e = .returned (.bool (inB a lo hi)) ∧ w = w' := by
 by_cases h : lo ≤ a
 ·go_enter Try.func108, Try.ntmps108
  go_wp2
  go_ret
  exact ⟨rb (inB_at h), rfl⟩
 ·go_enter Try.func108, Try.ntmps108
  go_wp2
  go_ret
  exact ⟨rb (inB_af (by omega)), rfl⟩
theorem inI (a lo hi : Int) (w : World) : Calls Try.prog 121 #[.int .i64 a, .int .i64 lo, .int .i64 hi] w fun e w' => e = .returned (.bool (inB a lo hi)) ∧ w = w' := by
 by_cases h : lo ≤ a
 ·go_enter Try.func121, Try.ntmps121
  go_wp2
  go_ret
  exact ⟨rb (inB_at h), rfl⟩
 ·go_enter Try.func121, Try.ntmps121
  go_wp2
  go_ret
  exact ⟨rb (inB_af (by omega)), rfl⟩
theorem C_at {w : World} {A : Option Addr} {n : Nat} {xs : List Int} (h : Kd.C (Kd.int .i64) w A n xs) {i : Nat} (hi : i < xs.length) : ∃ ad, A = some ad ∧ w.cell? (ad.add i) = some (.int .i64 xs[i]) := by
 obtain ⟨ad, v, cs, e, hk, hc, -⟩ := elem_at h hi (by decide)
 refine ⟨ad, e, ?_⟩
 have : v :: cs = [.int .i64 xs[i]] := hk
 injection this with h1 h2
 rw [← h1]
 rw [show i * (Kd.int .i64).sz = i from Nat.mul_one i] at hc
 exact hc
theorem hasS (xs : List Int) (x : Int) (A : Option Addr) (c : Nat) (w : World) (h : Kd.C (Kd.int .i64) w A xs.length xs) (hl : xs.length ≤ 2000000) : Calls Try.prog 91 #[.slice A xs.length c, .int .i64 x] w fun e w' => e = .returned (.bool (hasB xs x)) ∧ w = w' := by
 have H := Aside0.mk h
 clear h
 go_enter Try.func91, Try.ntmps91
 go_wp2
 go_loop [5] (fun v5 => ∃ i : Nat, v5 = .int .i64 (i : Int) ∧ i ≤ xs.length ∧ Aside0 (x ∉ xs.take i)) (fun v5 => xs.length - (intOf v5).toNat)
 case atStart => exact ⟨0, rfl, Nat.zero_le _, ⟨by simp⟩⟩
 case round =>
  obtain ⟨i, rfl, hi, HN⟩ := hrel
  by_cases hlt : i < xs.length
  ·obtain ⟨ad, hA, hc⟩ := C_at H.out hlt
   subst hA
   have c3 : ((0 : Int) ≤ (i : Int)) = True := eq_true (by omega)
   have c2 : ((i : Int) < (xs.length : Int)) = True := eq_true (by omega)
   obtain ⟨y, hy⟩ : ∃ y, y = xs[i] := ⟨_, rfl⟩
   rw [← hy] at hc
   have HY := Aside0.mk hy
   clear hy
   by_cases e : y = x
   ·subst e
    have e1 : (y == y) = true := beq_self_eq_true y
    go_wp2
    go_ret
    exact ⟨rb (show true = hasB xs y from (decide_eq_true (by rw [HY.out]; exact List.getElem_mem hlt)).symm), rfl⟩
   ·have e1 : (y == x) = false := beq_eq_false_iff_ne.2 e
    have HE := Aside0.mk e
    clear e
    go_wp2
    go_round
    case rel => exact ⟨i + 1, by go_num, by omega, ⟨by
     rw [List.take_succ_eq_append_getElem hlt, ← HY.out]
     simp only [List.mem_append, List.mem_singleton, not_or]
     exact ⟨HN.out, fun h => HE.out h.symm⟩⟩⟩
    case measure => simp [intOf]; omega
  ·have : i = xs.length := by omega
   subst this
   go_wp2
   go_ret
   exact ⟨rb (show false = hasB xs x from (decide_eq_false (by have := HN.out; rwa [List.take_length] at this)).symm), rfl⟩
end Go.Proofs.Ytonhdiemjgdcnaa.PFnExactGivePage
