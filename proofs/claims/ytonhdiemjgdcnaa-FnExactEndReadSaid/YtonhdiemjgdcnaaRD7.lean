import Derived.Test.YtonhdiemjgdcnaaRD6
set_option maxHeartbeats 64000000
set_option maxRecDepth 100000
set_option linter.unusedVariables false
set_option linter.unusedSimpArgs false
namespace Go.Proofs.Ytonhdiemjgdcnaa.PFnExactGivePage
open Go.RowKit Go.Proofs.YtonhdiemjgdcnaaW.PrintWords Go.Proofs.YtonhdiemjgdcnaaW.PrintLast Go.Proofs.YtonhdiemjgdcnaaW.PrintMore
attribute [local go_sem] max2_int min2_int max_two min_two max_three min_three max_four min_four
section
variable {P : Program} {ops : Array Oper} {Q : Exit → Act → World → Prop} {S : World → Prop} {N : Option Tmp} {o : Oper} {a : Act} {w : World} {i : Nat} {r : List Stp}
theorem seq_loadpart (ho : ops[i]? = some o) (hN : o.dst = N) (hw : Region.wanted o (yielded ops a.tmps) = true) (ty : TypeId) (x : Operand) (hop : o.op = .load ty x) (g off : Nat) (pre mid post : List Value) {cs : List Value} {t : TypeId} (d : TypeDesc) (hx : a.eval x = .pointer (some ⟨g, off, none⟩)) (hg : ∀ w', S w' → w'.heap[g]? = some (.cells cs.toArray t (0, 0))) (e : cs = pre ++ (mid ++ post)) (hp : pre.length = off)
  (hu : P.underlying ty = some d) (hd : d.isRow = true) (hi : (P.info? ty).map (·.size) = some mid.length) {a' : Act} (ha : a.put N (.agg mid.toArray) = a') (h : wpSeq P ops Q S r a' w) : wpSeq P ops Q S (.t i :: r) a w :=
 seq_t ho hN (.inl ⟨hw, fun w' hs => run_loadpart ty x hop g off pre mid post d hx (hg w' hs) e hp hu hd hi⟩) ha h
theorem seq_loadcell (ho : ops[i]? = some o) (hN : o.dst = N) (hw : Region.wanted o (yielded ops a.tmps) = true) (ty : TypeId) (x : Operand) (hop : o.op = .load ty x) (g off : Nat) (pre : List Value) (v : Value) (post : List Value) {cs : List Value} {t : TypeId} (d : TypeDesc) (hx : a.eval x = .pointer (some ⟨g, off, none⟩)) (hg : ∀ w', S w' → w'.heap[g]? = some (.cells cs.toArray t (0, 0))) (e : cs = pre ++ ([v] ++ post)) (hp : pre.length = off)
  (hu : P.underlying ty = some d) (hd : d.isRow = false) {a' : Act} (ha : a.put N v = a') (h : wpSeq P ops Q S r a' w) : wpSeq P ops Q S (.t i :: r) a w :=
 seq_t ho hN (.inl ⟨hw, fun w' hs => run_loadcell ty x hop g off pre v post hx (hg w' hs) e hp hu hd⟩) ha h
theorem seq_storepart (ho : ops[i]? = some o) (hN : o.dst = none) (hw : Region.wanted o (yielded ops a.tmps) = true) (ty : TypeId) (x y : Operand) (hop : o.op = .store ty x y) (g off : Nat) (new pre mid post : List Value) {cs : List Value} {t : TypeId} (hx : a.eval x = .pointer (some ⟨g, off, none⟩)) (hy : a.eval y = .agg new.toArray) (hg : w.heap[g]? = some (.cells cs.toArray t (0, 0))) (e : cs = pre ++ (mid ++ post)) (hp : pre.length = off)
  (hl : new.length = mid.length) (hi : (P.info? ty).map (·.size) = some new.length) (h1 : ∀ v ∈ new, v.oneCell' = true)
  (h : ∀ W', Put1 w W' g → W'.heap[g]? = some (.cells (pre ++ (new ++ post)).toArray t (0, 0)) → wpSeq P ops Q S r a W') : wpSeq P ops Q S (.l i :: r) a w := by
 refine seq_l ho hN (fun K hK => ?_)
 rw [if_pos hw]
 refine wp_store_mid ty x y hop g off new.toArray hx hy (by have := part_there hg e hp; rw [List.size_toArray, hl]; exact this) (by rw [List.size_toArray]; exact hi) (Array.all_eq_true_iff_forall_mem.2 (fun v hv => h1 v (by simpa using hv))) ?_
 rw [show a.put o.dst undef = a by rw [hN]; rfl]
 refine hK.out _ _ (h _ (Put1.cells off _) ?_)
 subst e; subst hp
 exact part_set new mid pre post w hl hg
theorem seq_storecell (ho : ops[i]? = some o) (hN : o.dst = none) (hw : Region.wanted o (yielded ops a.tmps) = true) (ty : TypeId) (x y : Operand) (hop : o.op = .store ty x y) (g off : Nat) (v u : Value) (pre post : List Value) {cs : List Value} {t : TypeId} (hx : a.eval x = .pointer (some ⟨g, off, none⟩)) (hy : a.eval y = v) (hg : w.heap[g]? = some (.cells cs.toArray t (0, 0))) (e : cs = pre ++ ([u] ++ post)) (hp : pre.length = off)
  (hi : (P.info? ty).map (·.size) = some 1) (h1 : v.oneCell' = true) (hc : v.cells = #[v])
  (h : ∀ W', Put1 w W' g → W'.heap[g]? = some (.cells (pre ++ ([v] ++ post)).toArray t (0, 0)) → wpSeq P ops Q S r a W') : wpSeq P ops Q S (.l i :: r) a w := by
 refine seq_l ho hN (fun K hK => ?_)
 rw [if_pos hw]
 have hth := part_there hg e hp
 have hrun := run_storeCells_cells (P := P) g off [v] 0 w (fun j hj => (hth j hj).1) (fun j hj => (hth j hj).2) (fun q hq => by rw [List.mem_singleton.1 hq]; exact h1)
 have hs : (storeVar ty ⟨g, off, none⟩ v).run P w = .ok () (w.setCells g off [v]) := by
  cases hq : P.info? ty with
  | none => simp [hq] at hi
  | some i =>
   have hs : 1 = i.size := by simp [hq] at hi; omega
   simp only [Nat.add_zero] at hrun
   simp [storeVar, sizeOf, typeInfo, hq, hc, ← hs, hrun]
 unfold Oper.wp execOp
 simp only [hop, hx, hy, Instr.storeAt, Instr.sureAddr, Sem.run_bind, Sem.run_pure, Result.andThen_ok, hs]
 show K (a.put o.dst undef) _
 rw [show a.put o.dst undef = a by rw [hN]; rfl]
 refine hK.out _ _ (h _ (Put1.cells off _) ?_)
 subst e; subst hp
 exact part_set [v] [u] pre post w rfl hg
end
structure Fct where
 lo : Nat
 hi : Nat
 P : World → Prop
 mv : ∀ {W W' : World}, (∀ k, lo ≤ k → k < hi → W'.heap[k]? = W.heap[k]?) → P W → P W'
def Iv (lo hi : Nat) : Nat → Prop := fun k => lo ≤ k ∧ k < hi
def Fct.box (g : Nat) (cs : List Value) (t : TypeId) : Fct := ⟨g, g + 1, fun W => W.heap[g]? = some (.cells cs.toArray t (0, 0)), fun h hp => (h g (Nat.le_refl _) (Nat.lt_succ_self _)).trans hp⟩
def Fct.made {α : Type} (d : Kd α) (base lo hi : Nat) (ok : Nat → Prop) (x : α) (cs : List Value) : Fct :=
 ⟨lo, hi, fun W => d.M W base (fun k => ok k ∧ Iv lo hi k) x cs, fun h hp => d.M_move (fun k hk => h k hk.2.1 hk.2.2) hp⟩
def All (W : World) (top : Nat) : List Fct → Prop
 | [] => True
 | f :: fs => (f.hi ≤ top ∧ f.P W) ∧ All W top fs
structure Env (w0 W : World) (top : Nat) (fs : List Fct) : Prop where
 below : Below w0.heap.size w0 W
 le : top ≤ W.heap.size
 ge : w0.heap.size ≤ top
 all : All W top fs
def OffA (g : Nat) : List Fct → Prop
 | [] => True
 | f :: fs => (g < f.lo ∨ f.hi ≤ g) ∧ OffA g fs
def Off (g : Nat) : List Fct → Nat → Prop
 | [], _ => True
 | _ :: fs, 0 => OffA g fs
 | f :: fs, n + 1 => (g < f.lo ∨ f.hi ≤ g) ∧ Off g fs n
section
variable {w0 W W' : World} {top top' : Nat} {fs : List Fct}
theorem All.step (hk : ∀ k, k < top → W'.heap[k]? = W.heap[k]?) (ht : top ≤ top') : ∀ {fs : List Fct}, All W top fs → All W' top' fs
 | [], _ => trivial
 | f :: _, ⟨⟨h1, h2⟩, h3⟩ => ⟨⟨Nat.le_trans h1 ht, f.mv (fun k _ h => hk k (Nat.lt_of_lt_of_le h h1)) h2⟩, All.step hk ht h3⟩
theorem All.offA {g : Nat} (hk : ∀ k, k ≠ g → W'.heap[k]? = W.heap[k]?) : ∀ {fs : List Fct}, All W top fs → OffA g fs → All W' top fs
 | [], _, _ => trivial
 | f :: _, ⟨⟨h1, h2⟩, h3⟩, ⟨h4, h5⟩ => ⟨⟨h1, f.mv (fun k h6 h7 => hk k (by rintro rfl; omega)) h2⟩, All.offA hk h3 h5⟩
theorem All.off {g : Nat} (hk : ∀ k, k ≠ g → W'.heap[k]? = W.heap[k]?) {f' : Fct} (hf : f'.P W') (hh : ∀ f : Fct, f.hi ≤ top → f.lo ≤ g → g < f.hi → True) : ∀ {fs : List Fct} (i : Nat), f'.hi ≤ top → All W top fs → Off g fs i → All W' top (fs.set i f')
 | [], i, _, _, _ => by cases i <;> exact trivial
 | _ :: _, 0, ht, ⟨_, h3⟩, h5 => ⟨⟨ht, hf⟩, All.offA hk h3 h5⟩
 | f :: _, i + 1, ht, ⟨⟨h1, h2⟩, h3⟩, ⟨h4, h5⟩ => ⟨⟨h1, f.mv (fun k h6 h7 => hk k (by rintro rfl; omega)) h2⟩, All.off hk hf hh i ht h3 h5⟩
theorem All.get : ∀ {fs : List Fct} (i : Nat) {f : Fct}, All W top fs → fs[i]? = some f → f.hi ≤ top ∧ f.P W
 | [], i, _, _, h => by simp at h
 | f :: _, 0, _, ⟨h1, _⟩, h => by simp at h; subst h; exact h1
 | _ :: _, i + 1, _, ⟨_, h3⟩, h => All.get i h3 (by simpa using h)
theorem Env.start (w : World) : Env w w w.heap.size [] := ⟨Below.refl _ _, Nat.le_refl _, Nat.le_refl _, trivial⟩
theorem Env.get (E : Env w0 W top fs) (i : Nat) {f : Fct} (h : fs[i]? = some f) : f.P W := (All.get i E.all h).2
theorem Env.box (E : Env w0 W top fs) (i : Nat) {g : Nat} {cs : List Value} {t : TypeId} (h : fs[i]? = some (Fct.box g cs t)) : W.heap[g]? = some (.cells cs.toArray t (0, 0)) := E.get i h
theorem Env.made (E : Env w0 W top fs) (i : Nat) {α : Type} {d : Kd α} {base lo hi : Nat} {ok : Nat → Prop} {x : α} {cs : List Value} (h : fs[i]? = some (Fct.made d base lo hi ok x cs)) : d.M W base (fun k => ok k ∧ Iv lo hi k) x cs := E.get i h
theorem Env.mk_ (E : Env w0 W top fs) (i : Nat) {α : Type} {d : Kd α} {base lo hi : Nat} {ok : Nat → Prop} {x : α} {cs : List Value} (h : fs[i]? = some (Fct.made d base lo hi ok x cs)) : d.K W x cs := d.K_of_M (E.made i h)
theorem Env.K (E : Env w0 W top fs) {α : Type} {d : Kd α} {x : α} {cs : List Value} (h : d.K w0 x cs) : d.K W x cs := d.K_below E.below h
theorem Env.alloc (E : Env w0 W top fs) (cs : List Value) (t : TypeId) {g : Nat} (hg : W.heap.size = g) : Env w0 (W.alloc (.cells cs.toArray t)) (g + 1) (Fct.box g cs t :: fs) := by
 subst hg
 refine ⟨below_alloc E.below _, by simp, Nat.le_succ_of_le E.below.size, ⟨Nat.le_refl _, blk_new W _⟩, All.step (fun k h => (below_alloc (Below.refl W.heap.size W) (.cells cs.toArray t)).block k (Nat.lt_of_lt_of_le h E.le)) (Nat.le_succ_of_le E.le) E.all⟩
theorem Env.call (E : Env w0 W top fs) (hb : Below W.heap.size W W') : Env w0 W' top fs :=
 ⟨below_step E.below hb, Nat.le_trans E.le hb.size, E.ge, All.step (fun k h => hb.block k (Nat.lt_of_lt_of_le h E.le)) (Nat.le_refl _) E.all⟩
theorem Env.drew (E : Env w0 W top fs) : Env w0 W.drew top fs := E.call (Below.refl W.heap.size W).drew
theorem Env.made_ (E : Env w0 W top fs) {α : Type} {d : Kd α} {x : α} {cs : List Value} (M : d.M W' W.heap.size (Fr W W') x cs) (hb : Below W.heap.size W W') : ∃ n m, (top ≤ n ∧ n ≤ m) ∧ Env w0 W' m (Fct.made d w0.heap.size n m (fun _ => True) x cs :: fs) :=
 ⟨W.heap.size, W'.heap.size, ⟨E.le, hb.size⟩, below_step E.below hb, Nat.le_refl _, Nat.le_trans E.below.size hb.size, ⟨Nat.le_refl _, d.M_lower E.below.size (d.M_mono (fun k hk => ⟨trivial, hk⟩) M)⟩, All.step (fun k h => hb.block k (Nat.lt_of_lt_of_le h E.le)) (Nat.le_trans E.le hb.size) E.all⟩
theorem Env.put (E : Env w0 W top fs) (i : Nat) {g : Nat} {new : List Value} {t : TypeId} (hp : Put1 W W' g) (hn : W'.heap[g]? = some (.cells new.toArray t (0, 0))) (hg : w0.heap.size ≤ g) (ht : g + 1 ≤ top) (ho : Off g fs i) : Env w0 W' top (fs.set i (Fct.box g new t)) := by
 have hk : ∀ k, k ≠ g → W'.heap[k]? = W.heap[k]? := by
  intro k hk
  by_cases hlt : k < W.heap.size
  ·exact hp.kept.2 k hlt hk
  ·rw [Array.getElem?_eq_none (show W'.heap.size ≤ k by rw [hp.size]; omega), Array.getElem?_eq_none (show W.heap.size ≤ k by omega)]
 exact ⟨hp.below w0 hg E.below, by rw [hp.size]; exact E.le, E.ge, All.off hk hn (fun _ _ _ _ => trivial) i ht E.all ho⟩
theorem Env.add (E : Env w0 W top fs) (f : Fct) (h1 : f.hi ≤ top) (h2 : f.P W) : Env w0 W top (f :: fs) := ⟨E.below, E.le, E.ge, ⟨h1, h2⟩, E.all⟩
end
section
variable {w0 W W' : World} {top : Nat} {fs : List Fct} {p : Prop}
theorem ones_K {α : Type} {d : Kd α} {w : World} {x : α} {cs : List Value} (h : d.K w x cs) : ∀ v ∈ cs, v.oneCell' = true := d.K_one h
theorem Env.made4 (E : Env w0 W top fs) (O : p) {α : Type} {d : Kd α} {x : α} {cs : List Value} (z : Nat) (hz : d.sz = z) (M : d.M W' W.heap.size (Fr W W') x cs) (hb : Below W.heap.size W W') : ∃ n m, Aside0 (cs.length = z) ∧ Aside0 (∀ v ∈ cs, v.oneCell' = true) ∧ Aside0 ((top ≤ n ∧ n ≤ m) ∧ p) ∧ Aside0 (Env w0 W' m (Fct.made d w0.heap.size n m (fun _ => True) x cs :: fs)) := by
 obtain ⟨n, m, h1, h2⟩ := E.made_ M hb
 exact ⟨n, m, ⟨(d.K_len (d.K_of_M M)).trans hz⟩, ⟨ones_K (d.K_of_M M)⟩, ⟨h1, O⟩, ⟨h2⟩⟩
theorem Env.put2 (E : Env w0 W top fs) (i : Nat) {g : Nat} {new : List Value} {t : TypeId} (hp : Put1 W W' g) (hn : W'.heap[g]? = some (.cells new.toArray t (0, 0))) (ho : w0.heap.size ≤ g ∧ g + 1 ≤ top ∧ Off g fs i) : Aside0 (Env w0 W' top (fs.set i (Fct.box g new t))) := ⟨E.put i hp hn ho.1 ho.2.1 ho.2.2⟩
theorem Env.to (E : Env w0 W top fs) (h : W = W') : Aside0 (Env w0 W' top fs) := ⟨h ▸ E⟩
end
theorem ones_app {a b : List Value} (ha : ∀ v ∈ a, v.oneCell' = true) (hb : ∀ v ∈ b, v.oneCell' = true) : ∀ v ∈ a ++ b, v.oneCell' = true := fun v hv => (List.mem_append.1 hv).elim (ha v) (hb v)
theorem ones1 {a : Value} (h : a.oneCell' = true) : ∀ v ∈ [a], v.oneCell' = true := fun v hv => by rw [List.mem_singleton.1 hv]; exact h
theorem onesC {a : Value} {l : List Value} (h : a.oneCell' = true) (hl : ∀ v ∈ l, v.oneCell' = true) : ∀ v ∈ a :: l, v.oneCell' = true := fun v hv => (List.mem_cons.1 hv).elim (fun e => by rw [e]; exact h) (hl v)
theorem onesN : ∀ v ∈ ([] : List Value), v.oneCell' = true := fun v hv => by cases hv
theorem lump_ (l : List Value) (n : Nat) (h : l.length = n) (ho : ∀ v ∈ l, v.oneCell' = true) : ∃ c, Aside0 (c = l) ∧ Aside0 (c.length = n) ∧ Aside0 (∀ v ∈ c, v.oneCell' = true) := ⟨l, ⟨rfl⟩, ⟨h⟩, ⟨ho⟩⟩
theorem s_A {α : Type _} (l : List α) (i : Nat) (a : α) : l.toArray.setIfInBounds i a = (l.set i a).toArray := List.setIfInBounds_toArray l i a
theorem s_0 {α : Type _} (x y : α) (xs : List α) : (x :: xs).set 0 y = y :: xs := rfl
theorem s_1 {α : Type _} (x y : α) (i : Nat) (xs : List α) : (x :: xs).set (i + 1) y = x :: xs.set i y := rfl
theorem comb {α β : Type} {a : Kd α} {b : Kd β} {W : World} {base : Nat} {p q : Nat → Prop} {x : α} {y : β} {c0 c1 : List Value} (ha : a.M W base p x c0) (hb : b.M W base q y c1) (hd : ∀ k, p k → ¬ q k) : (Own.apair a b).M W base (fun k => p k ∨ q k) (x, y) (c0 ++ c1) :=
 Own.apair_mk ha hb (fun _ h => .inl h) (fun _ h => .inr h) hd
theorem Mint {W : World} {base : Nat} {n : Int} : (Kd.int .i64).M W base (fun _ => False) n [.int .i64 n] := rfl
theorem Mbool {W : World} {base : Nat} {b : Bool} : Kd.bool.M W base (fun _ => False) b [.bool b] := rfl
theorem fresh {α : Type} {d : Kd α} {w W : World} {base : Nat} {p : Nat → Prop} {x : α} {cs : List Value} (h : d.M W base p x cs) (hb : w.heap.size ≤ base) : d.M W w.heap.size (Fr w W) x cs :=
 d.M_mono (fun k hk => ⟨hk.2.1, hk.2.2.1⟩) (d.M_bound (d.M_lower hb h))
theorem aA {α : Type} (x y z : List α) : x ++ y ++ z = x ++ (y ++ z) := List.append_assoc x y z
theorem aN {α : Type} (x : List α) : [] ++ x = x := rfl
theorem aL {α : Type} (x : List α) : x ++ [] = x := List.append_nil x
end Go.Proofs.Ytonhdiemjgdcnaa.PFnExactGivePage
namespace Go.Proofs.YtonhdiemjgdcnaaW.PrintLast
open Go.Proofs.YtonhdiemjgdcnaaW.PrintWords (Aside0)
inductive Tre where
 | d
 | p (i : Nat) (r : Tre) | t (i : Nat) (r : Tre) | e (i : Nat) (r : Tre) | l (i : Nat) (r : Tre)
 | two (i j : Nat) (ri rj : Tre)
 | three (i j k : Nat) (ri rj rk : Tre)
 | four (i j k m : Nat) (ri rj rk rm : Tre)
section
variable {P : Program} {ops : Array Oper} {Q : Exit → Act → World → Prop} {S : World → Prop} {ds : List Nat} {T : Bool × List (List Nat × List Nat)} {B : List Nat} {N : Option Tmp} {o : Oper} {v : Value} {a : Act} {w : World} {i j : Nat} {r ri rj : Tre}
def walkT (T : Bool × List (List Nat × List Nat)) (B ds : List Nat) : Nat → Bool → List Bool → Tre → Bool
 | _, _, l, .d => readyT T.2 l == []
 | n + 1, k, l, .p i r => (T.1 && freeT T.2 l i && readyAt T.2 l i) && walkT T B ds n k (l.set i true) r
 | n + 1, k, l, .t i r => (k && takeW T B ds l (l.set i true) i) && walkT T B ds n k (l.set i true) r
 | n + 1, _, l, .e i r => (readyT T.2 l == [i] && !ds.contains i) && walkT T B ds n true (l.set i true) r
 | n + 1, _, l, .l i r => (readyT T.2 l == [i] && ds.contains i) && walkT T B ds n false (l.set i true) r
 | n + 1, _, l, .two i j ri rj => (readyT T.2 l == [i, j] && !ds.contains i && !ds.contains j) && walkT T B ds n true (l.set i true) ri && walkT T B ds n true (l.set j true) rj
 | n + 1, _, l, .three i j k ri rj rk => (readyT T.2 l == [i, j, k] && !ds.contains i && !ds.contains j && !ds.contains k) && walkT T B ds n true (l.set i true) ri && walkT T B ds n true (l.set j true) rj && walkT T B ds n true (l.set k true) rk
 | n + 1, _, l, .four i j k m ri rj rk rm => (readyT T.2 l == [i, j, k, m] && !ds.contains i && !ds.contains j && !ds.contains k && !ds.contains m) && walkT T B ds n true (l.set i true) ri && walkT T B ds n true (l.set j true) rj && walkT T B ds n true (l.set k true) rk && walkT T B ds n true (l.set m true) rm
 | 0, _, _, _ => false
def regT (ops : Array Oper) (T : Bool × List (List Nat × List Nat)) (B ds : List Nat) (r : Tre) : Bool := rtab .any ops == T && waitsOk T.2 B && walkT T B ds ops.size true (List.replicate ops.size false) r
theorem put_withT (a : Act) (d : Option Tmp) (v : Value) : a.put d v = { a with tmps := (a.put d v).tmps } := by cases d <;> rfl
def Ev1 (P : Program) (o : Oper) (ops : Array Oper) (Q : Exit → Act → World → Prop) (a : Act) (w : World) (G : Act → World → Prop) : Prop :=
 ∀ K : Act → World → Prop, Shut (∀ a' w', G a' w' → K a' w') → if Region.wanted o (yielded ops a.tmps) = true then Oper.wp P o a w K Q else K (a.put o.dst undef) w
def wpTre (P : Program) (ops : Array Oper) (Q : Exit → Act → World → Prop) (S : World → Prop) : Tre → Act → World → Prop
 | .d, a, w => Q .normal a w
 | .p i r, a, w => ∃ o v, ops[i]? = some o ∧ Yields P ops o v a ∧ wpTre P ops Q S r (a.put o.dst v) w
 | .t i r, a, w => ∃ o v, ops[i]? = some o ∧ YieldsIf P ops S o v a ∧ wpTre P ops Q S r (a.put o.dst v) w
 | .e i r, a, w => ∃ o, ops[i]? = some o ∧ Ev1 P o ops Q a w (fun a' w' => S w' ∧ (S w' → wpTre P ops Q S r a' w'))
 | .l i r, a, w => ∃ o, ops[i]? = some o ∧ Ev1 P o ops Q a w (fun a' w' => wpTre P ops Q S r a' w')
 | .two i j ri rj, a, w => (∃ o, ops[i]? = some o ∧ Ev1 P o ops Q a w (fun a' w' => S w' ∧ (S w' → wpTre P ops Q S ri a' w'))) ∧ (∃ o, ops[j]? = some o ∧ Ev1 P o ops Q a w (fun a' w' => S w' ∧ (S w' → wpTre P ops Q S rj a' w')))
 | .three i j k ri rj rk, a, w => (∃ o, ops[i]? = some o ∧ Ev1 P o ops Q a w (fun a' w' => S w' ∧ (S w' → wpTre P ops Q S ri a' w'))) ∧ (∃ o, ops[j]? = some o ∧ Ev1 P o ops Q a w (fun a' w' => S w' ∧ (S w' → wpTre P ops Q S rj a' w'))) ∧ (∃ o, ops[k]? = some o ∧ Ev1 P o ops Q a w (fun a' w' => S w' ∧ (S w' → wpTre P ops Q S rk a' w')))
 | .four i j k m ri rj rk rm, a, w => (∃ o, ops[i]? = some o ∧ Ev1 P o ops Q a w (fun a' w' => S w' ∧ (S w' → wpTre P ops Q S ri a' w'))) ∧ (∃ o, ops[j]? = some o ∧ Ev1 P o ops Q a w (fun a' w' => S w' ∧ (S w' → wpTre P ops Q S rj a' w'))) ∧ (∃ o, ops[k]? = some o ∧ Ev1 P o ops Q a w (fun a' w' => S w' ∧ (S w' → wpTre P ops Q S rk a' w'))) ∧ (∃ o, ops[m]? = some o ∧ Ev1 P o ops Q a w (fun a' w' => S w' ∧ (S w' → wpTre P ops Q S rm a' w')))
theorem wpTre_sound (hT : rtab .any ops = T) (hB : waitsOk T.2 B = true) (hQ : ∀ c (a : Act) ts w, Q (.panic c) { a with tmps := ts } w → Q (.panic c) a w) : ∀ (r : Tre) (n : Nat) (k : Bool) (l : List Bool) (a : Act) (w : World),
  walkT T B ds n k l r = true → (k = true → S w) → wpTre P ops Q S r a w → wpAnyLast P .any ops Q S ds n l.toArray a w
 | .d, n, k, l, a, w, hc, hS, h => done_ (by subst hT; rw [ready_eq]; cases n <;> simpa [walkT] using hc) h
 | .p i r, 0, k, l, a, w, hc, hS, h => by simp [walkT] at hc
 | .p i r, n + 1, k, l, a, w, hc, hS, h => by
  simp only [walkT, Bool.and_eq_true] at hc
  obtain ⟨⟨⟨h1, h2⟩, h3⟩, h4⟩ := hc
  obtain ⟨o, v, ho, hy, hr⟩ := h
  refine pure_ (l.set i true).toArray ho rfl (any_of hT ?_) (fun c a w hh => hQ c a (a.put o.dst v).tmps w (by rw [← put_withT]; exact hh)) hy rfl (wpTre_sound hT hB hQ r n k _ _ w h4 hS hr)
  simp only [anyT, Bool.and_eq_true]
  exact ⟨⟨⟨h1, h2⟩, h3⟩, by simp⟩
 | .t i r, 0, k, l, a, w, hc, hS, h => by simp [walkT] at hc
 | .t i r, n + 1, k, l, a, w, hc, hS, h => by
  simp only [walkT, Bool.and_eq_true] at hc
  obtain ⟨⟨h1, h2⟩, h4⟩ := hc
  obtain ⟨o, v, ho, hy, hr⟩ := h
  exact take_ (l.set i true).toArray ho rfl (take_ofW hT hB h2) (fun c a w hh => hQ c a (a.put o.dst v).tmps w (by rw [← put_withT]; exact hh)) hy (hS h1) rfl (wpTre_sound hT hB hQ r n k _ _ w h4 hS hr)
 | .e i r, 0, k, l, a, w, hc, hS, h => by simp [walkT] at hc
 | .e i r, n + 1, k, l, a, w, hc, hS, h => by
  simp only [walkT, Bool.and_eq_true] at hc
  obtain ⟨⟨h1, h2⟩, h4⟩ := hc
  obtain ⟨o, ho, hr⟩ := h
  refine one_ (l.set i true).toArray ho rfl (one_of hT ?_) (by simpa using h2) (fun K hK => hr K (fun a' w' hs => hK.out a' w' hs.1 fun hs2 => wpTre_sound hT hB hQ r n true _ a' w' h4 (fun _ => hs2) (hs.2 hs2)))
  simp only [Bool.and_eq_true]
  exact ⟨h1, by simp⟩
 | .l i r, 0, k, l, a, w, hc, hS, h => by simp [walkT] at hc
 | .l i r, n + 1, k, l, a, w, hc, hS, h => by
  simp only [walkT, Bool.and_eq_true] at hc
  obtain ⟨⟨h1, h2⟩, h4⟩ := hc
  obtain ⟨o, ho, hr⟩ := h
  refine last_ (l.set i true).toArray ho rfl (one_of hT ?_) (by simpa using h2) (fun K hK => hr K (fun a' w' hs => hK.out a' w' (wpTre_sound hT hB hQ r n false _ a' w' h4 (fun h => by cases h) hs)))
  simp only [Bool.and_eq_true]
  exact ⟨h1, by simp⟩
 | .two i j ri rj, 0, k, l, a, w, hc, hS, h => by simp [walkT] at hc
 | .two i j ri rj, n + 1, k, l, a, w, hc, hS, h => by
  simp only [walkT, Bool.and_eq_true] at hc
  obtain ⟨⟨⟨⟨h1, h2⟩, h3⟩, h4⟩, h5⟩ := hc
  obtain ⟨⟨oi, hoi, hri⟩, oj, hoj, hrj⟩ := h
  refine two_ (l.set i true).toArray (l.set j true).toArray hoi hoj rfl rfl (two_of hT ?_) (by simpa using h2) (by simpa using h3) (fun K hK => hri K (fun a' w' hs => hK.out a' w' hs.1 fun hs2 => wpTre_sound hT hB hQ ri n true _ a' w' h4 (fun _ => hs2) (hs.2 hs2))) (fun K hK => hrj K (fun a' w' hs => hK.out a' w' hs.1 fun hs2 => wpTre_sound hT hB hQ rj n true _ a' w' h5 (fun _ => hs2) (hs.2 hs2)))
  simp only [Bool.and_eq_true]
  exact ⟨⟨h1, by simp⟩, by simp⟩
 | .three i j k ri rj rk, 0, k_, l, a, w, hc, hS, h => by simp [walkT] at hc
 | .three i j k ri rj rk, n + 1, k_, l, a, w, hc, hS, h => by
  simp only [walkT, Bool.and_eq_true, beq_iff_eq] at hc
  obtain ⟨⟨⟨⟨⟨⟨h1, ci⟩, cj⟩, ck⟩, wi⟩, wj⟩, wk⟩ := hc
  obtain ⟨⟨oi, hoi, hri⟩, ⟨oj, hoj, hrj⟩, ⟨ok, hok, hrk⟩⟩ := h
  refine wpAnyLast_ready (rs := [i, j, k]) (by rw [ready_eq, hT]; exact h1) (by simp) (AllReadyL.cons hoi (by simpa using ci) (fun K hK => hri K (fun a' w' hs => hK.out a' w' hs.1 fun hs2 => by rw [show l.toArray.setIfInBounds i true = (l.set i true).toArray by simp]; exact wpTre_sound hT hB hQ ri n true _ a' w' wi (fun _ => hs2) (hs.2 hs2))) (AllReadyL.cons hoj (by simpa using cj) (fun K hK => hrj K (fun a' w' hs => hK.out a' w' hs.1 fun hs2 => by rw [show l.toArray.setIfInBounds j true = (l.set j true).toArray by simp]; exact wpTre_sound hT hB hQ rj n true _ a' w' wj (fun _ => hs2) (hs.2 hs2))) (AllReadyL.cons hok (by simpa using ck) (fun K hK => hrk K (fun a' w' hs => hK.out a' w' hs.1 fun hs2 => by rw [show l.toArray.setIfInBounds k true = (l.set k true).toArray by simp]; exact wpTre_sound hT hB hQ rk n true _ a' w' wk (fun _ => hs2) (hs.2 hs2))) AllReadyL.nil)))
 | .four i j k m ri rj rk rm, 0, k_, l, a, w, hc, hS, h => by simp [walkT] at hc
 | .four i j k m ri rj rk rm, n + 1, k_, l, a, w, hc, hS, h => by
  simp only [walkT, Bool.and_eq_true, beq_iff_eq] at hc
  obtain ⟨⟨⟨⟨⟨⟨⟨⟨h1, ci⟩, cj⟩, ck⟩, cm⟩, wi⟩, wj⟩, wk⟩, wm⟩ := hc
  obtain ⟨⟨oi, hoi, hri⟩, ⟨oj, hoj, hrj⟩, ⟨ok, hok, hrk⟩, ⟨om, hom, hrm⟩⟩ := h
  refine wpAnyLast_ready (rs := [i, j, k, m]) (by rw [ready_eq, hT]; exact h1) (by simp) (AllReadyL.cons hoi (by simpa using ci) (fun K hK => hri K (fun a' w' hs => hK.out a' w' hs.1 fun hs2 => by rw [show l.toArray.setIfInBounds i true = (l.set i true).toArray by simp]; exact wpTre_sound hT hB hQ ri n true _ a' w' wi (fun _ => hs2) (hs.2 hs2))) (AllReadyL.cons hoj (by simpa using cj) (fun K hK => hrj K (fun a' w' hs => hK.out a' w' hs.1 fun hs2 => by rw [show l.toArray.setIfInBounds j true = (l.set j true).toArray by simp]; exact wpTre_sound hT hB hQ rj n true _ a' w' wj (fun _ => hs2) (hs.2 hs2))) (AllReadyL.cons hok (by simpa using ck) (fun K hK => hrk K (fun a' w' hs => hK.out a' w' hs.1 fun hs2 => by rw [show l.toArray.setIfInBounds k true = (l.set k true).toArray by simp]; exact wpTre_sound hT hB hQ rk n true _ a' w' wk (fun _ => hs2) (hs.2 hs2))) (AllReadyL.cons hom (by simpa using cm) (fun K hK => hrm K (fun a' w' hs => hK.out a' w' hs.1 fun hs2 => by rw [show l.toArray.setIfInBounds m true = (l.set m true).toArray by simp]; exact wpTre_sound hT hB hQ rm n true _ a' w' wm (fun _ => hs2) (hs.2 hs2))) AllReadyL.nil))))
theorem tre_start {id : Nat} (hc : regT ops T B ds r = true) (hm : P.follows .mixedOrders = true) (hQ : ∀ c (a : Act) ts w, Q (.panic c) { a with tmps := ts } w → Q (.panic c) a w) (hS : S w.drew) (h : S w.drew → wpTre P ops Q S r a w.drew) : (Code.region id ops true).wp P Q a w := by
 simp only [regT, Bool.and_eq_true, beq_iff_eq] at hc
 obtain ⟨⟨h1, h2⟩, h4⟩ := hc
 refine start_ (ds := ds) (List.replicate ops.size false).toArray hm rfl (by simp) hS (fun hs => ?_)
 exact wpTre_sound h1 h2 hQ r _ true _ a _ h4 (fun _ => hs) (h hs)
theorem tre_p (ho : ops[i]? = some o) (hN : o.dst = N) (hy : Yields P ops o v a) {a' : Act} (ha : a.put N v = a') (h : wpTre P ops Q S r a' w) : wpTre P ops Q S (.p i r) a w := by
 subst hN; subst ha; exact ⟨o, v, ho, hy, h⟩
theorem tre_t (ho : ops[i]? = some o) (hN : o.dst = N) (hy : YieldsIf P ops S o v a) {a' : Act} (ha : a.put N v = a') (h : wpTre P ops Q S r a' w) : wpTre P ops Q S (.t i r) a w := by
 subst hN; subst ha; exact ⟨o, v, ho, hy, h⟩
theorem tre_e (ho : ops[i]? = some o) (h : Ev1 P o ops Q a w (fun a' w' => S w' ∧ (S w' → wpTre P ops Q S r a' w'))) : wpTre P ops Q S (.e i r) a w := ⟨o, ho, h⟩
theorem tre_l (ho : ops[i]? = some o) (h : Ev1 P o ops Q a w (fun a' w' => wpTre P ops Q S r a' w')) : wpTre P ops Q S (.l i r) a w := ⟨o, ho, h⟩
theorem tre_two {oj : Oper} (ho : ops[i]? = some o) (hoj : ops[j]? = some oj) (h : Ev1 P o ops Q a w (fun a' w' => S w' ∧ (S w' → wpTre P ops Q S ri a' w'))) (h2 : Ev1 P oj ops Q a w (fun a' w' => S w' ∧ (S w' → wpTre P ops Q S rj a' w'))) : wpTre P ops Q S (.two i j ri rj) a w := ⟨⟨o, ho, h⟩, oj, hoj, h2⟩
theorem tre_three {k : Nat} {rk : Tre} {oj ok : Oper} (ho : ops[i]? = some o) (hoj : ops[j]? = some oj) (hok : ops[k]? = some ok) (h : Ev1 P o ops Q a w (fun a' w' => S w' ∧ (S w' → wpTre P ops Q S ri a' w'))) (h2 : Ev1 P oj ops Q a w (fun a' w' => S w' ∧ (S w' → wpTre P ops Q S rj a' w'))) (h3 : Ev1 P ok ops Q a w (fun a' w' => S w' ∧ (S w' → wpTre P ops Q S rk a' w'))) : wpTre P ops Q S (.three i j k ri rj rk) a w := ⟨⟨o, ho, h⟩, ⟨oj, hoj, h2⟩, ok, hok, h3⟩
theorem tre_four {k m : Nat} {rk rm : Tre} {oj ok om : Oper} (ho : ops[i]? = some o) (hoj : ops[j]? = some oj) (hok : ops[k]? = some ok) (hom : ops[m]? = some om) (h : Ev1 P o ops Q a w (fun a' w' => S w' ∧ (S w' → wpTre P ops Q S ri a' w'))) (h2 : Ev1 P oj ops Q a w (fun a' w' => S w' ∧ (S w' → wpTre P ops Q S rj a' w'))) (h3 : Ev1 P ok ops Q a w (fun a' w' => S w' ∧ (S w' → wpTre P ops Q S rk a' w'))) (h4 : Ev1 P om ops Q a w (fun a' w' => S w' ∧ (S w' → wpTre P ops Q S rm a' w'))) : wpTre P ops Q S (.four i j k m ri rj rk rm) a w := ⟨⟨o, ho, h⟩, ⟨oj, hoj, h2⟩, ⟨ok, hok, h3⟩, om, hom, h4⟩
theorem tre_done (h : Q .normal a w) : wpTre P ops Q S .d a w := h
theorem tre_norm {a' : Act} (ha : a = a') (h : wpTre P ops Q S r a' w) : wpTre P ops Q S r a w := by subst ha; exact h
theorem ev1_call {G : Act → World → Prop} {f : FuncId} {fn : Func} {aa : Array Operand} {ts : Array TypeId} (hN : o.dst = N) (hf : P.funcs[f]? = some fn) (hname : (fn.name == "runtime.NumGoroutine") = false) (hb : fn.body.isSome = true) (args : Array Value)
  (hw : Region.wanted o (yielded ops a.tmps) = true) (hop : o.op = .call { callee := .value (.func f), args := aa, argTypes := ts }) (hargs : aa.map a.eval = args)
  (h : Calls P f args w fun e w' => ∃ v, e = .returned v ∧ G (a.put N v) w') : Ev1 P o ops Q a w G := by
 subst hN
 exact fun K hK => goes_ hf hname hb args hw rfl hop hargs (h.mono fun e w' ⟨v, he, hk⟩ => ⟨v, he, hK.out _ _ hk⟩)
theorem ev1_alloc {G : Act → World → Prop} (hN : o.dst = N) (hw : Region.wanted o (yielded ops a.tmps) = true) (ty : TypeId) (hop : o.op = .alloc ty) (cs : List Value) (hz : (zeroValue ty).run P w = .ok (.agg cs.toArray) w)
  (h : G (a.put N (.pointer (some ⟨w.heap.size, 0, none⟩))) (w.alloc (.cells cs.toArray ty))) : Ev1 P o ops Q a w G := by
 intro K hK
 subst hN
 rw [if_pos hw]
 unfold Oper.wp execOp
 simp only [hop, Instr.alloc, Sem.run_bind, hz, Result.andThen_ok, newVar, Value.cells, Sem.run_pure]
 exact hK.out _ _ h
end
end Go.Proofs.YtonhdiemjgdcnaaW.PrintLast
namespace Go.Proofs.Ytonhdiemjgdcnaa.PFnExactGivePage
open Go.RowKit Go.Proofs.YtonhdiemjgdcnaaW.PrintWords Go.Proofs.YtonhdiemjgdcnaaW.PrintLast Go.Proofs.YtonhdiemjgdcnaaW.PrintMore
section
variable {P : Program} {ops : Array Oper} {Q : Exit → Act → World → Prop} {S : World → Prop} {G : Act → World → Prop} {N : Option Tmp} {o : Oper} {a : Act} {w : World} {i : Nat} {r : Tre}
theorem tre_loadpart (ho : ops[i]? = some o) (hN : o.dst = N) (hw : Region.wanted o (yielded ops a.tmps) = true) (ty : TypeId) (x : Operand) (hop : o.op = .load ty x) (g off : Nat) (pre mid post : List Value) {cs : List Value} {t : TypeId} (d : TypeDesc) (hx : a.eval x = .pointer (some ⟨g, off, none⟩)) (hg : ∀ w', S w' → w'.heap[g]? = some (.cells cs.toArray t (0, 0))) (e : cs = pre ++ (mid ++ post)) (hp : pre.length = off)
  (hu : P.underlying ty = some d) (hd : d.isRow = true) (hi : (P.info? ty).map (·.size) = some mid.length) {a' : Act} (ha : a.put N (.agg mid.toArray) = a') (h : wpTre P ops Q S r a' w) : wpTre P ops Q S (.t i r) a w :=
 tre_t ho hN (.inl ⟨hw, fun w' hs => run_loadpart ty x hop g off pre mid post d hx (hg w' hs) e hp hu hd hi⟩) ha h
theorem tre_loadcell (ho : ops[i]? = some o) (hN : o.dst = N) (hw : Region.wanted o (yielded ops a.tmps) = true) (ty : TypeId) (x : Operand) (hop : o.op = .load ty x) (g off : Nat) (pre : List Value) (v : Value) (post : List Value) {cs : List Value} {t : TypeId} (d : TypeDesc) (hx : a.eval x = .pointer (some ⟨g, off, none⟩)) (hg : ∀ w', S w' → w'.heap[g]? = some (.cells cs.toArray t (0, 0))) (e : cs = pre ++ ([v] ++ post)) (hp : pre.length = off)
  (hu : P.underlying ty = some d) (hd : d.isRow = false) {a' : Act} (ha : a.put N v = a') (h : wpTre P ops Q S r a' w) : wpTre P ops Q S (.t i r) a w :=
 tre_t ho hN (.inl ⟨hw, fun w' hs => run_loadcell ty x hop g off pre v post hx (hg w' hs) e hp hu hd⟩) ha h
theorem ev1_storepart (hN : o.dst = none) (hw : Region.wanted o (yielded ops a.tmps) = true) (ty : TypeId) (x y : Operand) (hop : o.op = .store ty x y) (g off : Nat) (new pre mid post : List Value) {cs : List Value} {t : TypeId} (hx : a.eval x = .pointer (some ⟨g, off, none⟩)) (hy : a.eval y = .agg new.toArray) (hg : w.heap[g]? = some (.cells cs.toArray t (0, 0))) (e : cs = pre ++ (mid ++ post)) (hp : pre.length = off)
  (hl : new.length = mid.length) (hi : (P.info? ty).map (·.size) = some new.length) (h1 : ∀ v ∈ new, v.oneCell' = true)
  (h : ∀ W', Put1 w W' g → W'.heap[g]? = some (.cells (pre ++ (new ++ post)).toArray t (0, 0)) → G a W') : Ev1 P o ops Q a w G := by
 intro K hK
 rw [if_pos hw]
 refine wp_store_mid ty x y hop g off new.toArray hx hy (by have := part_there hg e hp; rw [List.size_toArray, hl]; exact this) (by rw [List.size_toArray]; exact hi) (Array.all_eq_true_iff_forall_mem.2 (fun v hv => h1 v (by simpa using hv))) ?_
 rw [show a.put o.dst undef = a by rw [hN]; rfl]
 refine hK.out _ _ (h _ (Put1.cells off _) ?_)
 subst e; subst hp
 exact part_set new mid pre post w hl hg
theorem ev1_storecell (hN : o.dst = none) (hw : Region.wanted o (yielded ops a.tmps) = true) (ty : TypeId) (x y : Operand) (hop : o.op = .store ty x y) (g off : Nat) (v u : Value) (pre post : List Value) {cs : List Value} {t : TypeId} (hx : a.eval x = .pointer (some ⟨g, off, none⟩)) (hy : a.eval y = v) (hg : w.heap[g]? = some (.cells cs.toArray t (0, 0))) (e : cs = pre ++ ([u] ++ post)) (hp : pre.length = off)
  (hi : (P.info? ty).map (·.size) = some 1) (h1 : v.oneCell' = true) (hc : v.cells = #[v])
  (h : ∀ W', Put1 w W' g → W'.heap[g]? = some (.cells (pre ++ ([v] ++ post)).toArray t (0, 0)) → G a W') : Ev1 P o ops Q a w G := by
 intro K hK
 rw [if_pos hw]
 have hth := part_there hg e hp
 have hrun := run_storeCells_cells (P := P) g off [v] 0 w (fun j hj => (hth j hj).1) (fun j hj => (hth j hj).2) (fun q hq => by rw [List.mem_singleton.1 hq]; exact h1)
 have hs : (storeVar ty ⟨g, off, none⟩ v).run P w = .ok () (w.setCells g off [v]) := by
  cases hq : P.info? ty with
  | none => simp [hq] at hi
  | some i =>
   have hs : 1 = i.size := by simp [hq] at hi; omega
   simp only [Nat.add_zero] at hrun
   simp [storeVar, sizeOf, typeInfo, hq, hc, ← hs, hrun]
 unfold Oper.wp execOp
 simp only [hop, hx, hy, Instr.storeAt, Instr.sureAddr, Sem.run_bind, Sem.run_pure, Result.andThen_ok, hs]
 show K (a.put o.dst undef) _
 rw [show a.put o.dst undef = a by rw [hN]; rfl]
 refine hK.out _ _ (h _ (Put1.cells off _) ?_)
 subst e; subst hp
 exact part_set [v] [u] pre post w rfl hg
theorem fill_seg {pl : Nat → Option (Nat × Nat)} {i : Nat} {v : Value} {new pre mid post cs : List Value} {rest : List (Nat × Value)} {z : Option (Array Value)} (hv : v.cells = new.toArray) (e : cs = pre ++ (mid ++ post)) (hp : pl i = some (pre.length, new.length)) (hl : new.length = mid.length)
  (h : Instr.fill pl (pre ++ (new ++ post)).toArray rest = z) : Instr.fill pl cs.toArray ((i, v) :: rest) = z := by
 subst e
 subst h
 have hz : ∀ (new mid pre post : List Value), new.length = mid.length → (new.zipIdx).foldl (fun (cs : Array Value) (c, j) => cs.setIfInBounds (pre.length + j) c) (pre ++ (mid ++ post)).toArray = (pre ++ (new ++ post)).toArray := by
  intro new
  induction new with
  | nil => intro mid pre post h; cases mid <;> simp_all
  | cons n ns ih =>
   intro mid pre post h
   cases mid with
   | nil => simp at h
   | cons m ms =>
    have ih := ih ms (pre ++ [n]) post (by simpa using h)
    rw [List.zipIdx_cons, List.foldl_cons]
    have hs : (pre ++ ((m :: ms) ++ post)).toArray.setIfInBounds (pre.length + 0) n = ((pre ++ [n]) ++ (ms ++ post)).toArray := by simp
    simp only [hs]
    have h2 : (ns.zipIdx (0 + 1)).foldl (fun (cs : Array Value) (x : Value × Nat) => cs.setIfInBounds (pre.length + x.2) x.1) ((pre ++ [n]) ++ (ms ++ post)).toArray = (ns.zipIdx).foldl (fun (cs : Array Value) (x : Value × Nat) => cs.setIfInBounds ((pre ++ [n]).length + x.2) x.1) ((pre ++ [n]) ++ (ms ++ post)).toArray := by
     rw [List.zipIdx_succ, List.foldl_map]
     congr 1
     funext cs x
     simp [Nat.add_assoc, Nat.add_comm 1]
    refine Eq.trans h2 ?_
    rw [ih]
    simp
 simp only [Instr.fill, hp, hv, List.size_toArray]
 rw [if_neg (by simp [hl])]
 have := hz new mid pre post hl
 rw [← this]
 congr 1
 simp [← Array.foldl_toList]
theorem run_build (ty : TypeId) (parts : Array (Nat × Operand)) (ho : o.op = .build ty parts) (zs : List Value) (hz : ∀ w, (zeroValue ty).run P w = .ok (.agg zs.toArray) w) (fields : Array Field) (hu : P.underlying ty = some (.struct fields)) (pl : Array (Nat × Nat))
  (hp : ∀ w, (fields.mapM fun f => do pure (f.offset, ← sizeOf f.type) : Sem (Array (Nat × Nat))).run P w = .ok pl w) (vs : List (Nat × Value)) (hvs : parts.map (fun (i, x) => (i, a.eval x)) = vs.toArray) (res : List Value) (hf : Instr.fill (pl[·]?) zs.toArray vs = some res.toArray) : ∀ W, (execOp a.eval o).run P W = .ok (.value (.agg res.toArray)) W := by
 intro W
 have hv2 : Array.map (fun x => (x.1, a.eval x.2)) parts = vs.toArray := hvs
 unfold execOp
 simp only [ho, Instr.build, Sem.run_bind, hz, Result.andThen_ok, run_underlying hu, hp, Value.cells, hv2, hf, Sem.run_pure, Sem.run_map, Functor.map]
end
end Go.Proofs.Ytonhdiemjgdcnaa.PFnExactGivePage
namespace Go.Proofs.Ytonhdiemjgdcnaa.PFnExactGivePage
open Go.RowKit Go.Proofs.YtonhdiemjgdcnaaW.PrintWords Go.Proofs.YtonhdiemjgdcnaaW.PrintLast Go.Proofs.YtonhdiemjgdcnaaW.PrintMore
attribute [local go_sem] max2_int min2_int max_two min_two max_three min_three max_four min_four
abbrev Z32 : List Value := [.slice none 0 0, .slice none 0 0]
abbrev Z34 : List Value := [.slice none 0 0, .slice none 0 0, .int .i64 0, .slice none 0 0, .slice none 0 0, .slice none 0 0]
abbrev Z56 : List Value := [.int .i64 0, .int .i64 0, .int .i64 0, .slice none 0 0, .slice none 0 0, .slice none 0 0, .int .i64 0, .slice none 0 0, .slice none 0 0, .slice none 0 0, .int .i64 0]
abbrev Z58 : List Value := [.slice none 0 0, .slice none 0 0, .int .i64 0, .int .i64 0, .int .i64 0, .slice none 0 0, .slice none 0 0, .int .i64 0, .int .i64 0, .int .i64 0, .slice none 0 0, .slice none 0 0, .slice none 0 0, .int .i64 0, .slice none 0 0, .slice none 0 0, .slice none 0 0, .int .i64 0, .bool false, .bool false]
abbrev Z118 : List Value := [.int .i64 0, .int .i64 0, .int .i64 0, .int .i64 0, .slice none 0 0]
theorem Env.cell {w0 W : World} {top : Nat} {fs : List Fct} (E : Env w0 W top fs) {a : Addr} {v : Value} (h : w0.cell? a = some v) : W.cell? a = some v := (E.below.cell (World.block_lt_of_cell? w0 _ h)).trans h
theorem Env.range {w0 W : World} {top : Nat} {fs : List Fct} (E : Env w0 W top fs) {b o : Nat} {cs : List Value} (h : w0.rangeAt b o cs) : W.rangeAt b o cs := fun j v hv => E.cell (h j v hv)
section
variable {P : Program} {ops : Array Oper} {Q : Exit → Act → World → Prop} {S : World → Prop} {G : Act → World → Prop} {N : Option Tmp} {o : Oper} {a : Act} {w : World} {i : Nat} {r : Tre}
theorem tre_loadrange (ho : ops[i]? = some o) (hN : o.dst = N) (hw : Region.wanted o (yielded ops a.tmps) = true) (ty : TypeId) (x : Operand) (hop : o.op = .load ty x) (g off : Nat) (mid : List Value) (d : TypeDesc) (hx : a.eval x = .pointer (some ⟨g, off, none⟩)) (hg : ∀ w', S w' → w'.rangeAt g off mid)
  (hu : P.underlying ty = some d) (hd : d.isRow = true) (hi : (P.info? ty).map (·.size) = some mid.length) {a' : Act} (ha : a.put N (.agg mid.toArray) = a') (h : wpTre P ops Q S r a' w) : wpTre P ops Q S (.t i r) a w :=
 tre_t ho hN (.inl ⟨hw, fun w' hs => by
  unfold execOp
  simp only [hop, hx, Instr.loadAt, Instr.sureAddr, Sem.run_bind, Sem.run_pure, Result.andThen_ok, run_loadVar_mid w' g off ty mid d (hg w' hs) hu hd hi]⟩) ha h
theorem tre_loadat (ho : ops[i]? = some o) (hN : o.dst = N) (hw : Region.wanted o (yielded ops a.tmps) = true) (ty : TypeId) (x : Operand) (hop : o.op = .load ty x) (p : Addr) (v : Value) (d : TypeDesc) (hx : a.eval x = .pointer (some p)) (hg : ∀ w', S w' → w'.cell? p = some v)
  (hu : P.underlying ty = some d) (hd : d.isRow = false) {a' : Act} (ha : a.put N v = a') (h : wpTre P ops Q S r a' w) : wpTre P ops Q S (.t i r) a w :=
 tre_t ho hN (.inl ⟨hw, fun w' hs => by
  have hagg : (isAgg ty).run P w' = .ok false w' := by
   unfold isAgg
   rw [Sem.run_bind, run_underlying hu w']
   cases d <;> simp_all
  unfold execOp
  simp [hop, hx, Instr.loadAt, Instr.sureAddr, Sem.run_bind, loadVar, hagg, run_load, hg w' hs]⟩) ha h
theorem ev1_lit1 (hN : o.dst = N) (hw : Region.wanted o (yielded ops a.tmps) = true) (t e : TypeId) (x : Operand) (hop : o.op = .buildSlice t 1 #[(0, x)]) (hu : P.underlying t = some (.slice e)) (zs : List Value) (hz : (zeroValue e).run P w = .ok (.agg zs.toArray) w) (hs : (sizeOf e).run P w = .ok zs.length w)
  (hz2 : (Array.range (1 * zs.length)).map (zs.toArray[· % zs.toArray.size]!) = zs.toArray) (h0 : 0 < zs.length) (h1 : zs.length ≤ 1000) (cs : List Value) (hx : a.eval x = .agg cs.toArray) (hl : cs.length = zs.length)
  (h : G (a.put N (.slice (some ⟨w.heap.size, 0, none⟩) 1 1)) (w.alloc (.cells cs.toArray e))) : Ev1 P o ops Q a w G := by
 intro K hK
 subst hN
 rw [if_pos hw]
 have hf : Instr.fill (fun i => some (i * zs.length, zs.length)) zs.toArray [(0, .agg cs.toArray)] = some cs.toArray := by
  refine fill_seg (new := cs) (pre := []) (mid := zs) (post := []) rfl (by simp) (by simp [hl]) hl ?_
  simp [Instr.fill]
 have hz3 : (do pure (← zeroValue e).cells : Sem (Array Value)).run P w = .ok zs.toArray w := by simp [Sem.run_bind, hz, Value.cells]
 have hne : ¬ 1 * zs.length = 0 := by omega
 have hle : ¬ 1 * zs.length > 2 ^ 24 := by omega
 unfold Oper.wp execOp
 simp only [hop, Instr.buildSlice, Sem.run_bind, run_underlying hu, hs, Result.andThen_ok, List.map_toArray, List.map_cons, List.map_nil, hx, hz2, hf, if_neg hne, if_neg hle, hz, Value.cells, Sem.run_pure, newRow, Sem.run_map, Functor.map]
 exact hK.out _ _ h
end
section
variable {P : Program} {ops : Array Oper} {rest : List Oper} {o : Oper} {a : Act} {Q : Exit → Act → World → Prop} {W : World}
theorem ev_loadpart_w (hw : Region.wanted o (yielded ops a.tmps) = true) (ty : TypeId) (x : Operand) (ho : o.op = .load ty x) (g off : Nat) (pre mid post : List Value) {cs : List Value} {t : TypeId} (d : TypeDesc) (hx : a.eval x = .pointer (some ⟨g, off, none⟩)) (hg : W.heap[g]? = some (.cells cs.toArray t (0, 0))) (e : cs = pre ++ (mid ++ post)) (hp : pre.length = off)
  (hu : P.underlying ty = some d) (hd : d.isRow = true) (hi : (P.info? ty).map (·.size) = some mid.length) (h : wpList P ops Q rest (a.put o.dst (.agg mid.toArray)) W) : wpList P ops Q (o :: rest) a W := by
 refine wpList_step fun K hK => ?_
 rw [if_pos hw]
 unfold Oper.wp
 rw [run_loadpart ty x ho g off pre mid post d hx hg e hp hu hd hi]
 exact hK _ _ h
end
def Off2 (lo hi : Nat) : List Fct → Nat → Prop
 | [], _ => True
 | _ :: fs, 0 => Off2A lo hi fs
 | f :: fs, n + 1 => (f.hi ≤ lo ∨ hi ≤ f.lo) ∧ Off2 lo hi fs n
where Off2A (lo hi : Nat) : List Fct → Prop
 | [] => True
 | f :: fs => (f.hi ≤ lo ∨ hi ≤ f.lo) ∧ Off2A lo hi fs
theorem All.off2A {W W' : World} {top top' lo hi : Nat} (hk : ∀ k, k < top → (k < lo ∨ hi ≤ k) → W'.heap[k]? = W.heap[k]?) (ht : top ≤ top') : ∀ {fs : List Fct}, All W top fs → Off2.Off2A lo hi fs → All W' top' fs
 | [], _, _ => trivial
 | f :: _, ⟨⟨h1, h2⟩, h3⟩, ⟨h4, h5⟩ => ⟨⟨Nat.le_trans h1 ht, f.mv (fun k h6 h7 => hk k (by omega) (by omega)) h2⟩, All.off2A hk ht h3 h5⟩
theorem All.off2 {W W' : World} {top top' lo hi : Nat} (hk : ∀ k, k < top → (k < lo ∨ hi ≤ k) → W'.heap[k]? = W.heap[k]?) (ht : top ≤ top') {f' : Fct} (h1' : f'.hi ≤ top') (hf : f'.P W') : ∀ {fs : List Fct} (i : Nat), All W top fs → Off2 lo hi fs i → All W' top' (fs.set i f')
 | [], i, _, _ => by cases i <;> exact trivial
 | _ :: _, 0, ⟨_, h3⟩, h5 => ⟨⟨h1', hf⟩, All.off2A hk ht h3 h5⟩
 | f :: _, i + 1, ⟨⟨h1, h2⟩, h3⟩, ⟨h4, h5⟩ => ⟨⟨Nat.le_trans h1 ht, f.mv (fun k h6 h7 => hk k (by omega) (by omega)) h2⟩, All.off2 hk ht h1' hf i h3 h5⟩
section
variable {P : Program} {ops : Array Oper} {Q : Exit → Act → World → Prop} {G : Act → World → Prop} {N : Option Tmp} {o : Oper} {a : Act}
theorem ev1_append {w0 W : World} {top : Nat} {fs : List Fct} (E : Env w0 W top fs) (hN : o.dst = N) (hw : Region.wanted o (yielded ops a.tmps) = true) (s x : Operand) (t e : TypeId) (z : Value) (bytes : Nat)
  (ho : o.op = .call { callee := .builtin .append, args := #[s, x], argTypes := #[t, t] }) {α : Type} (d : Kd α)
  (ht : P.underlying t = some (.slice e)) (hinfo : (P.info? e).map (fun i => (i.zero, i.size, i.bytes)) = some (some z, d.sz, bytes)) (hz : z.cells.size = d.sz) (hs0 : 0 < d.sz) (hb0 : 0 < bytes)
  (i : Nat) {lo hi : Nat} {v : Value} {xs : List α} (hf : fs[i]? = some (Fct.made (Own.srow e d) w0.heap.size lo hi (fun _ => True) xs [v])) {p : α} {cs : List Value} (q : Nat → Prop) (hp : d.M W w0.heap.size q p cs) (hq : ∀ k, q k → hi ≤ k) (hlo : lo ≤ hi) (hlt : lo ≤ top)
  (hs : a.eval s = v) (hx : a.eval x = .slice (some ⟨W.heap.size, 0, none⟩) 1 1) (hl : (xs.length + 1) * bytes ≤ 140737488355328) (hoff : Off2 lo hi fs i)
  (h : ∀ v1 w1 m, (top ≤ m) → Env w0 w1 m (fs.set i (Fct.made (Own.srow e d) w0.heap.size lo m (fun _ => True) (xs ++ [p]) [v1])) → G (a.put N v1) w1) : Ev1 P o ops Q a (W.alloc (.cells cs.toArray e)) G := by
 intro K hK
 subst hN
 obtain ⟨v', hv, hS⟩ := E.made i hf
 injection hv with hv
 subst hv
 have hown : ∀ k, v.ownBlock = some k → True ∧ Iv lo hi k := hS.choose_spec.1
 refine Kd.S_append_step d (w0 := w0) w0.heap.size hw s x t e z bytes ho ht hinfo hz hs0 hb0 v xs p cs (fun k => lo ≤ k) q hs hx hp (fun k hk => ⟨Nat.le_trans hlo (hq k hk), fun e => by have := (hown k e.symm).2.2; have := hq k hk; omega⟩) (fun k hk => Nat.le_trans hlt (Nat.le_trans E.le hk)) (Kd.S_mono hS (fun k hk => ⟨hk.2.1, fun h2 => by have := hk.2.2; have := hq k h2; omega⟩)) E.below E.below.size hl ?_
 intro v1 w1 hS1 hB hg _
 refine hK.out _ _ (h v1 w1 w1.heap.size (Nat.le_trans E.le hg.size) ⟨hB, Nat.le_refl _, hB.size, All.off2 (fun k hk hk2 => hg.block k (Nat.lt_of_lt_of_le hk E.le) (fun e => ?_)) (Nat.le_trans E.le hg.size) (Nat.le_refl _) ?_ i E.all hoff⟩)
 ·have := (hown k e.symm).2
  obtain ⟨h1, h2⟩ := this
  omega
 ·exact ⟨v1, rfl, Kd.S_mono (Kd.S_bound hS1) (fun k hk => ⟨trivial, hk.1, hk.2.2.1⟩)⟩
end
def Fct.nil : Fct := ⟨0, 0, fun _ => True, fun _ h => h⟩
theorem All.set {W : World} {top : Nat} {f' : Fct} : ∀ {fs : List Fct} (i : Nat), f'.hi ≤ top → f'.P W → All W top fs → All W top (fs.set i f')
 | [], i, _, _, _ => by cases i <;> exact trivial
 | _ :: _, 0, h1, h2, ⟨_, h3⟩ => ⟨⟨h1, h2⟩, h3⟩
 | _ :: _, i + 1, h1, h2, ⟨h4, h3⟩ => ⟨h4, All.set i h1 h2 h3⟩
theorem Env.nil_ {w0 W : World} {top : Nat} {fs : List Fct} (E : Env w0 W top fs) : Env w0 W top (Fct.nil :: fs) := ⟨E.below, E.le, E.ge, ⟨Nat.zero_le _, trivial⟩, E.all⟩
theorem Env.madeAt {w0 W W' : World} {top : Nat} {fs : List Fct} (E : Env w0 W top fs) (i : Nat) {α : Type} {d : Kd α} {x : α} {cs : List Value} (M : d.M W' W.heap.size (Fr W W') x cs) (hb : Below W.heap.size W W') : ∃ n m, (top ≤ n ∧ n ≤ m) ∧ Env w0 W' m (fs.set i (Fct.made d w0.heap.size n m (fun _ => True) x cs)) := by
 obtain ⟨n, m, h1, h2⟩ := E.made_ M hb
 exact ⟨n, m, h1, h2.below, h2.le, h2.ge, All.set i h2.all.1.1 h2.all.1.2 h2.all.2⟩
theorem arow_of_srow {α : Type} {d : Kd α} {e : Nat} {W : World} {base : Nat} {p : Nat → Prop} {xs : List α} {v : Value} (h : (Own.srow e d).M W base p xs [v]) : (Own.arow e d).M W base p xs [v] := by
 obtain ⟨v', hv, hS⟩ := h
 injection hv with hv
 subst hv
 exact Own.arow_of_S hS
theorem S_made0 {α : Type} (d : Kd α) (e base : Nat) (w : World) (ok : Nat → Prop) (hb : base ≤ w.heap.size) (hok : ok w.heap.size) : Kd.S d e (w.alloc (.cells #[] e)) base ok (.slice (some ⟨w.heap.size, 0, none⟩) 0 0) [] :=
 ⟨fun _ => 0, fun k hk => by simp [Value.ownBlock] at hk; rw [← hk]; exact hok, [], World.ownsRow_made w #[] 0 hb (by decide) (by simp), Reps.none _ _⟩
section
variable {P : Program} {ops : Array Oper} {Q : Exit → Act → World → Prop} {G : Act → World → Prop} {N : Option Tmp} {o : Oper} {a : Act} {w0 W : World} {top : Nat} {fs : List Fct}
theorem ev1_lit0 (E : Env w0 W top fs) (i : Nat) (hN : o.dst = N) (hw : Region.wanted o (yielded ops a.tmps) = true) (t e : TypeId) (hop : o.op = .buildSlice t 0 #[]) (hu : P.underlying t = some (.slice e)) (sz : Nat) (hs : (sizeOf e).run P W = .ok sz W) {α : Type} (d : Kd α)
  (h : ∀ g W', top ≤ g → Env w0 W' (g + 1) (fs.set i (Fct.made (Own.srow e d) w0.heap.size g (g + 1) (fun _ => True) [] [.slice (some ⟨g, 0, none⟩) 0 0])) → G (a.put N (.slice (some ⟨g, 0, none⟩) 0 0)) W') : Ev1 P o ops Q a W G := by
 intro K hK
 subst hN
 rw [if_pos hw]
 have hz : (Array.range (0 * sz)).map ((#[] : Array Value)[· % (#[] : Array Value).size]!) = #[] := by simp
 have hle : ¬ 0 * sz > 2 ^ 24 := by simp
 have h0 : 0 * sz = 0 := by simp
 have hr : Array.range 0 = #[] := rfl
 unfold Oper.wp execOp
 simp only [hop, Instr.buildSlice, Sem.run_bind, run_underlying hu, hs, Result.andThen_ok, List.map_toArray, List.map_nil, if_neg hle, h0, if_true, Instr.fill, Sem.run_pure, newRow, Sem.run_map, Functor.map, hr, Array.map_empty]
 refine hK.out _ _ (h W.heap.size (W.alloc (.cells #[] e)) E.le ?_)
 have E1 := E.call (below_alloc (Below.refl W.heap.size W) (.cells #[] e))
 exact ⟨E1.below, by simp, Nat.le_succ_of_le E.below.size, All.set i (Nat.le_refl _) (show Fct.P _ _ from ⟨_, rfl, Kd.S_mono (S_made0 d e w0.heap.size W (fun k => k = W.heap.size) E.below.size rfl) (fun k hk => ⟨trivial, by rw [hk]; exact ⟨Nat.le_refl _, Nat.lt_succ_self _⟩⟩)⟩) (All.step (fun _ _ => rfl) (Nat.le_succ_of_le E.le) E1.all)⟩
theorem ev1_appendrow (E : Env w0 W top fs) (hN : o.dst = N) (hw : Region.wanted o (yielded ops a.tmps) = true) (s x : Operand) (t e : TypeId) (z : Value) (bytes : Nat)
  (ho : o.op = .call { callee := .builtin .append, args := #[s, x], argTypes := #[t, t] }) {α : Type} (d : Kd α) (hE : d.E = [])
  (ht : P.underlying t = some (.slice e)) (hinfo : (P.info? e).map (fun i => (i.zero, i.size, i.bytes)) = some (some z, d.sz, bytes)) (hz : z.cells.size = d.sz) (hs0 : 0 < d.sz) (hb0 : 0 < bytes)
  (i : Nat) {g : Nat} {v : Value} (hf : fs[i]? = some (Fct.made (Own.srow e d) w0.heap.size g (g + 1) (fun _ => True) [] [v])) {ys : List α} {A : Option Addr} {m c : Nat} (hR : d.C w0 A m ys) (hKM : ∀ x cs, d.K W x cs → d.M W w0.heap.size (fun _ => False) x cs)
  (hs : a.eval s = v) (hx : a.eval x = .slice A m c) (hl : m * bytes ≤ 140737488355328) (hgt : g + 1 ≤ top) (hoff : Off2 g (g + 1) fs i)
  (h : ∀ v1 w1 b t1, (b = g ∨ top ≤ b) ∧ b + 1 ≤ t1 ∧ top ≤ t1 → Env w0 w1 t1 (fs.set i (Fct.made (Own.srow e d) w0.heap.size b (b + 1) (fun _ => True) ys [v1])) → G (a.put N v1) w1) : Ev1 P o ops Q a W G := by
 intro K hK
 subst hN
 obtain ⟨v', hv, hS⟩ := E.made i hf
 injection hv with hv
 subst hv
 have hown : ∀ k, v.ownBlock = some k → True ∧ Iv g (g + 1) k := hS.choose_spec.1
 have hC := Kd.C_below hR E.below
 refine Kd.R_append_rows_step d (Rr := d.K W) (w0 := w0) w0.heap.size hw s x t e z bytes ho ht hinfo hz hs0 hb0 v [] ys A m c (fun _ => True) (fun _ => False) hs hx (Kd.R_mono (Kd.S_R hS) (fun _ _ => trivial)) hC hKM (fun _ h => h.elim) (fun _ _ => trivial) E.below E.below.size (by rw [List.length_nil, Nat.zero_add]; exact hl) ?_
 intro v1 w1 hR1 hB hg hat
 rw [List.nil_append] at hR1
 have hM := Own.srow_of_R hE hR1
 have fin : ∀ b, (b = g ∨ top ≤ b) → b + 1 ≤ w1.heap.size → (∀ k, some k = v1.ownBlock → k = b) → K (a.put o.dst v1) w1 := fun b h1 h2 h3 => by
  refine hK.out _ _ (h v1 w1 b w1.heap.size ⟨h1, h2, Nat.le_trans E.le hg.size⟩ ⟨hB, Nat.le_refl _, hB.size, All.off2 (fun k hk hk2 => hg.block k (Nat.lt_of_lt_of_le hk E.le) (fun e => ?_)) (Nat.le_trans E.le hg.size) (f' := Fct.made (Own.srow e d) w0.heap.size b (b + 1) (fun _ => True) ys [v1]) h2 ?_ i E.all hoff⟩)
  ·have := (hown k e.symm).2
   obtain ⟨q1, q2⟩ := this
   omega
  ·exact (Own.srow e d).M_mono (fun k hk => ⟨trivial, by rw [h3 k hk]; exact ⟨Nat.le_refl _, Nat.lt_succ_self _⟩⟩) hM
 rcases hat with hat | ⟨b, hb, hle⟩
 ·refine fin g (.inl rfl) (Nat.le_trans hgt (Nat.le_trans E.le hg.size)) (fun k hk => ?_)
  rw [hat] at hk
  have := (hown k hk.symm).2
  obtain ⟨q1, q2⟩ := this
  omega
 ·refine fin b (.inr (Nat.le_trans E.le hle)) (Kd.R_lt hR1 b hb) (fun k hk => ?_)
  rw [hb] at hk
  injection hk
end
theorem Kpair {α β : Type} {a : Kd α} {b : Kd β} {w : World} {x : α} {y : β} {c0 c1 : List Value} (ha : a.K w x c0) (hb : b.K w y c1) : (Own.apair a b).K w (x, y) (c0 ++ c1) := ⟨c0, c1, rfl, ha, hb⟩
theorem range4 {w : World} {b o : Nat} {a0 a1 a2 a3 : Value} (h0 : w.cell? ⟨b, o + 1, none⟩ = some a0) (h1 : w.cell? ⟨b, o + 2, none⟩ = some a1) (h2 : w.cell? ⟨b, o + 3, none⟩ = some a2) (h3 : w.cell? ⟨b, o + 4, none⟩ = some a3) : w.rangeAt b (o + 1) [a0, a1, a2, a3] := by
 intro j v hj
 match j, hj with
 | 0, hj => injection hj with hj; subst hj; exact h0
 | 1, hj => injection hj with hj; subst hj; exact h1
 | 2, hj => injection hj with hj; subst hj; exact h2
 | 3, hj => injection hj with hj; subst hj; exact h3
def Pick (fs : List Fct) : List (Nat × Fct) → Prop
 | [] => True
 | (i, f) :: r => fs[i]? = some f ∧ Pick fs r
theorem Env.pick {w0 W : World} {top : Nat} {fs : List Fct} (E : Env w0 W top fs) : ∀ (r : List (Nat × Fct)), Pick fs r → Env w0 W top (r.map (·.2))
 | [], _ => ⟨E.below, E.le, E.ge, trivial⟩
 | (i, f) :: r, ⟨h1, h2⟩ => ⟨E.below, E.le, E.ge, All.get i E.all h1, (E.pick r h2).all⟩
theorem kDisk_comb {W : World} {base : Nat} {p q : Nat → Prop} {l0 : List ByteArray} {l1 : List S135} {a b : Value} (ha : (Own.srow 9 Kd.string).M W base p l0 [a]) (hb : (Own.srow 135 k135).M W base q l1 [b]) (hd : ∀ k, p k → ¬ q k) : kDisk.M W base (fun k => p k ∨ q k) (l0, l1) [a, b] := comb ha hb hd
theorem kWork_of {W : World} {base : Nat} {p p3 p4 p5 : Nat → Prop} {l0 : List ByteArray} {l1 : List S135} {l2 : Int} {l3 l4 l5 : List Int} {x0 x1 v3 v4 v5 : Value} (h : kDisk.M W base p (l0, l1) [x0, x1]) (h3 : (Own.srow 3 (Kd.int .i64)).M W base p3 l3 [v3]) (h4 : (Own.srow 3 (Kd.int .i64)).M W base p4 l4 [v4]) (h5 : (Own.srow 3 (Kd.int .i64)).M W base p5 l5 [v5]) (d0 : ∀ k, p k → ¬ (p3 k ∨ p4 k ∨ p5 k)) (d1 : ∀ k, p3 k → ¬ (p4 k ∨ p5 k)) (d2 : ∀ k, p4 k → ¬ p5 k) : kWork.M W base (fun k => p k ∨ p3 k ∨ p4 k ∨ p5 k) (l0, l1, l2, l3, l4, l5) [x0, x1, .int .i64 l2, v3, v4, v5] := by
 obtain ⟨c0, c1, okA, okB, e, ha, hb, hA, hB, hab⟩ := Own.apair_open h
 obtain ⟨v, rfl, hs⟩ := ha
 injection e with e1 e2
 subst e1
 subst e2
 have t3 := comb (arow_of_srow h3) (comb (arow_of_srow h4) (arow_of_srow h5) d2) d1
 have t2 : (Own.apair (Kd.int .i64) (Own.apair (Own.arow 3 (Kd.int .i64)) (Own.apair (Own.arow 3 (Kd.int .i64)) (Own.arow 3 (Kd.int .i64))))).M W base (fun k => p3 k ∨ p4 k ∨ p5 k) (l2, l3, l4, l5) [.int .i64 l2, v3, v4, v5] := Own.apair_mk (okA := fun _ => False) (Mint (n := l2)) t3 (fun _ h => h.elim) (fun _ h => h) (fun _ h => h.elim)
 have t1 := Own.apair_mk (ok := fun k => p k ∨ p3 k ∨ p4 k ∨ p5 k) (okA := okB) (okB := fun k => p3 k ∨ p4 k ∨ p5 k) hb t2 (fun k h => Or.inl (hB k h)) (fun k h => Or.inr h) (fun k h1 h3 => d0 k (hB k h1) h3)
 exact Own.apair_mk (ok := fun k => p k ∨ p3 k ∨ p4 k ∨ p5 k) (okA := okA) (okB := fun k => okB k ∨ p3 k ∨ p4 k ∨ p5 k) (show (Own.srow 9 Kd.string).M W base okA l0 _ from ⟨_, rfl, hs⟩) (Own.apair_mk (ok := fun k => okB k ∨ p3 k ∨ p4 k ∨ p5 k) (okA := okB) (okB := fun k => p3 k ∨ p4 k ∨ p5 k) hb t2 (fun k h => Or.inl h) (fun k h => Or.inr h) (fun k h1 h3 => d0 k (hB k h1) h3)) (fun k h => Or.inl (hA k h)) (fun k h => h.elim (fun h => Or.inl (hB k h)) Or.inr) (fun k h1 h3 => h3.elim (hab k h1) (d0 k (hA k h1)))
theorem kWork_of2 {W : World} {base : Nat} {p p3 p4 p5 : Nat → Prop} {l0 : List ByteArray} {l1 : List S135} {l2 : Int} {l3 l4 l5 : List Int} {c : List Value} {v3 v4 v5 : Value} (h : kDisk.M W base p (l0, l1) c) (h3 : (Own.arow 3 (Kd.int .i64)).M W base p3 l3 [v3]) (h4 : (Own.arow 3 (Kd.int .i64)).M W base p4 l4 [v4]) (h5 : (Own.arow 3 (Kd.int .i64)).M W base p5 l5 [v5]) (d0 : ∀ k, p k → ¬ (p3 k ∨ p4 k ∨ p5 k)) (d1 : ∀ k, p3 k → ¬ (p4 k ∨ p5 k)) (d2 : ∀ k, p4 k → ¬ p5 k) : kWork.M W base (fun k => p k ∨ p3 k ∨ p4 k ∨ p5 k) (l0, l1, l2, l3, l4, l5) (c ++ ([.int .i64 l2] ++ ([v3] ++ ([v4] ++ [v5])))) := by
 obtain ⟨c0, c1, okA, okB, rfl, ha, hb, hA, hB, hab⟩ := Own.apair_open h
 have t3 := comb h3 (comb h4 h5 d2) d1
 have t2 : (Own.apair (Kd.int .i64) (Own.apair (Own.arow 3 (Kd.int .i64)) (Own.apair (Own.arow 3 (Kd.int .i64)) (Own.arow 3 (Kd.int .i64))))).M W base (fun k => p3 k ∨ p4 k ∨ p5 k) (l2, l3, l4, l5) ([.int .i64 l2] ++ ([v3] ++ ([v4] ++ [v5]))) := Own.apair_mk (okA := fun _ => False) (Mint (n := l2)) t3 (fun _ h => h.elim) (fun _ h => h) (fun _ h => h.elim)
 rw [List.append_assoc]
 exact Own.apair_mk (ok := fun k => p k ∨ p3 k ∨ p4 k ∨ p5 k) (okA := okA) (okB := fun k => okB k ∨ p3 k ∨ p4 k ∨ p5 k) ha (Own.apair_mk (ok := fun k => okB k ∨ p3 k ∨ p4 k ∨ p5 k) (okA := okB) (okB := fun k => p3 k ∨ p4 k ∨ p5 k) hb t2 (fun k h => Or.inl h) (fun k h => Or.inr h) (fun k h1 h3 => d0 k (hB k h1) h3)) (fun k h => Or.inl (hA k h)) (fun k h => h.elim (fun h => Or.inl (hB k h)) Or.inr) (fun k h1 h3 => h3.elim (hab k h1) (d0 k (hA k h1)))
theorem ev1_gate {P : Program} {ops : Array Oper} {Q : Exit → Act → World → Prop} {G : Act → World → Prop} {o : Oper} {a : Act} {W : World} {N : Nat} (_h : o.dst = some N) (h : Ev1 P o ops Q a W G) : Ev1 P o ops Q a W G := h
theorem kDisk_lit {w : World} {l0 : List ByteArray} {l1 : List S135} {a b : Value} (h0 : (Own.srow 9 Kd.string).K w l0 [a]) (h1 : (Own.srow 135 k135).K w l1 [b]) : kDisk.K w (l0, l1) [a, b] := Kpair h0 h1
def l03Copy_n_T1 : Bool × List (List Nat × List Nat) := (true, [([], []), ([], []), ([1], [1]), ([0, 2], [0, 2]), ([], []), ([], []), ([5], [5]), ([4, 6, 3], [4, 6]), ([3, 7], [3, 7]), ([8, 7, 0, 1, 2, 3, 4, 5, 6, 7, 8], [8])])
def l03Copy_n_B1 : List Nat := [0, 0, 2, 7, 0, 0, 32, 127, 255, 511]
theorem l03Copy_n_ok1_0 : regT (opsOf Try.f65 1) l03Copy_n_T1 l03Copy_n_B1 [9] (.p 1 (.t 2 (.p 5 (.t 6 (.two 0 4 (.two 3 4 (.e 4 (.e 7 (.p 8 (.l 9 .d)))) (.e 3 (.e 7 (.p 8 (.l 9 .d))))) (.e 0 (.e 3 (.e 7 (.p 8 (.l 9 .d)))))))))) = true := by kernel_rfl
theorem l03Copy_n (l0 : List ByteArray) (l1 : List S135) {cs : List Value} (w : World) (h : kDisk.K w (l0, l1) cs) (hl : l0.length ≤ 2000000 ∧ l1.length ≤ 2000000) :
  Calls Try.prog 65 #[.agg cs.toArray] w fun e w' => ∃ ds : List Value, e = .returned (.agg ds.toArray) ∧ kDisk.M w' w.heap.size (Fr w w') (l0, l1) ds ∧ Below w.heap.size w w' := by
 obtain ⟨A0, c0, A1, c1, rfl, m0, r0, m1, r1⟩ := kDisk_open h
 have R0 := Aside0.mk r0; have R1 := Aside0.mk r1; have L0 := Aside0.mk hl.1; have L1 := Aside0.mk hl.2; clear h r0 r1 m0 m1 hl
 have O := Aside0.mk (Nat.le_refl w.heap.size)
 have E := Aside0.mk (Env.start w)
 go_enter Try.func65, Try.ntmps65
 go_upto_region 1 with (fail)
 replace O := Aside0.mk (And.intro E.out.le O.out)
 replace E := Aside0.mk (E.out.alloc [.slice A0 l0.length c0, .slice A1 l1.length c1] 32 (g := w.heap.size) rfl)
 replace E := Aside0.mk (E.out.alloc [.slice none 0 0, .slice none 0 0] 32 (g := (w.heap.size + 1)) (by simp))
 replace E := Aside0.mk E.out.nil_
 replace E := Aside0.mk E.out.nil_
 replace E := Aside0.mk E.out.drew
 refine tre_start l03Copy_n_ok1_0 (S := fun w' => w'.heap[w.heap.size]? = some (.cells ([.slice A0 l0.length c0, .slice A1 l1.length c1] : List Value).toArray 32 (0, 0)) ∧ True) (by kernel_rfl) (fun _ _ _ _ h => h) ⟨(E.out.box 3 rfl), trivial⟩ (fun hHeld => ?_)
 generalize hq : World.drew _ = w1_ at hHeld ⊢; replace E := E.out.to hq; clear hq
 (refine tre_p (v := ?_) (a' := ?_) rfl rfl (Or.inl ⟨by rfl, ?_⟩) ?_ ?_; rotate_left; (· intro w'; go_simp; with_reducible rfl); rotate_left; (· show Act.put _ (some _) _ = _; simp only [Act.put, s_A, s_0, s_1, i64_w]; try rfl))
 refine tre_loadcell (a' := ?ax2_) rfl rfl (by rfl) 22 _ rfl w.heap.size 0 [] (.slice A0 l0.length c0) [.slice A1 l1.length c1] _ rfl (fun w' hs => hs.1) (by first | rfl | (simp only [aA, aN, aL]; first | done | rfl)) (rfl) Try.underlying22 rfl ?px2_ ?kx2_
 case px2_ => (show Act.put _ (some _) _ = _; simp only [Act.put, s_A, s_0, s_1, i64_w]; try rfl)
 (refine tre_p (v := ?_) (a' := ?_) rfl rfl (Or.inl ⟨by rfl, ?_⟩) ?_ ?_; rotate_left; (· intro w'; go_simp; with_reducible rfl); rotate_left; (· show Act.put _ (some _) _ = _; simp only [Act.put, s_A, s_0, s_1, i64_w]; try rfl))
 refine tre_loadcell (a' := ?ax3_) rfl rfl (by rfl) 30 _ rfl w.heap.size 1 [.slice A0 l0.length c0] (.slice A1 l1.length c1) [] _ rfl (fun w' hs => hs.1) (by first | rfl | (simp only [aA, aN, aL]; first | done | rfl)) (rfl) Try.underlying30 rfl ?px3_ ?kx3_
 case px3_ => (show Act.put _ (some _) _ = _; simp only [Act.put, s_A, s_0, s_1, i64_w]; try rfl)
 repeat' (first
  | (refine tre_four rfl rfl rfl rfl ?_ ?_ ?_ ?_)
  | (refine tre_three rfl rfl rfl ?_ ?_ ?_)
  | (refine tre_two rfl rfl ?_ ?_)
  | (refine tre_e rfl ?_)
  | ((with_reducible refine ev1_gate (N := 3) rfl ?_); refine ev1_lit0 (N := some 3) E.out 0 rfl (by rfl) 22 9 rfl Try.underlying22 1 (by kernel_rfl) Kd.string ?_; intro g0 W hg hE; have q := And.intro hg O.out; clear O E hg; have O := Aside0.mk q; have E := Aside0.mk hE; clear q hE; refine ⟨⟨E.out.box 3 rfl, trivial⟩, fun hHeld => ?_⟩; refine tre_norm (a' := ?_) ?_ ?_; rotate_left; (· show Act.put _ (some 3) _ = _; simp only [Act.put, s_A, s_0, s_1, i64_w]; try rfl))
  | ((with_reducible refine ev1_gate (N := 6) rfl ?_); refine ev1_appendrow (N := some 6) E.out rfl (by rfl) _ _ 22 9 (.string .empty) 16 rfl Kd.string rfl Try.underlying22 info9 rfl (by decide) (by decide) 0 (g := g0) rfl R0.out (fun _ _ h => h) rfl rfl (by have := L0.out; omega) (by have o := O.out; omega) (by have o := O.out; dsimp only [Off2, Off2.Off2A, Fct.box, Fct.made, Fct.nil, List.set]; and_intros <;> first | trivial | omega) ?_; intro u W b0 t0 hg hE; have q := And.intro hg O.out; clear O E hg; have O := Aside0.mk q; have E := Aside0.mk hE; clear q hE; obtain ⟨B0, e0, hv, -⟩ := E.out.mk_ 0 rfl; injection hv with hv; subst hv; refine ⟨⟨E.out.box 3 rfl, trivial⟩, fun hHeld => ?_⟩; refine tre_norm (a' := ?_) ?_ ?_; rotate_left; (· show Act.put _ (some 6) _ = _; simp only [Act.put, s_A, s_0, s_1, i64_w]; try rfl))
  | ((with_reducible refine ev1_gate (N := 7) rfl ?_); refine ev1_lit0 (N := some 7) E.out 1 rfl (by rfl) 30 135 rfl Try.underlying30 2 (by kernel_rfl) k135 ?_; intro g1 W hg hE; have q := And.intro hg O.out; clear O E hg; have O := Aside0.mk q; have E := Aside0.mk hE; clear q hE; refine ⟨⟨E.out.box 3 rfl, trivial⟩, fun hHeld => ?_⟩; refine tre_norm (a' := ?_) ?_ ?_; rotate_left; (· show Act.put _ (some 7) _ = _; simp only [Act.put, s_A, s_0, s_1, i64_w]; try rfl))
  | ((with_reducible refine ev1_gate (N := 10) rfl ?_); refine ev1_appendrow (N := some 10) E.out rfl (by rfl) _ _ 30 135 (.agg #[.int .i64 0, .string .empty]) 24 rfl k135 rfl Try.underlying30 info135 rfl (by decide) (by decide) 1 (g := g1) rfl R1.out (fun _ _ h => h) rfl rfl (by have := L1.out; omega) (by have o := O.out; omega) (by have o := O.out; dsimp only [Off2, Off2.Off2A, Fct.box, Fct.made, Fct.nil, List.set]; and_intros <;> first | trivial | omega) ?_; intro u W b1 t1 hg hE; have q := And.intro hg O.out; clear O E hg; have O := Aside0.mk q; have E := Aside0.mk hE; clear q hE; obtain ⟨B1, e1, hv, -⟩ := E.out.mk_ 1 rfl; injection hv with hv; subst hv; refine ⟨⟨E.out.box 3 rfl, trivial⟩, fun hHeld => ?_⟩; refine tre_norm (a' := ?_) ?_ ?_; rotate_left; (· show Act.put _ (some 10) _ = _; simp only [Act.put, s_A, s_0, s_1, i64_w]; try rfl)))
 all_goals
  (refine tre_p (v := ?_) (a' := ?_) rfl rfl (Or.inl ⟨by rfl, ?_⟩) ?_ ?_; rotate_left; (· intro w'; go_simp; with_reducible rfl); rotate_left; (· show Act.put _ (some _) _ = _; simp only [Act.put, s_A, s_0, s_1, i64_w]; try rfl))
  refine tre_l rfl (ev1_storepart rfl (by rfl) 32 _ _ rfl (w.heap.size + 1) 0 [.slice B0 l0.length e0, .slice B1 l1.length e1] [] Z32 [] rfl rfl (E.out.box 2 rfl) rfl rfl rfl (by kernel_rfl) (onesC rfl (onesC rfl onesN)) (fun W hp hn => ?_))
  replace E := E.out.put2 2 hp hn (by have o := O.out; dsimp only [Off, OffA, Fct.box, Fct.made, Fct.nil, List.set]; and_intros <;> first | trivial | omega)
  refine tre_done ?_
  clear hHeld hp hn
  go_wp2_with fail
  refine bodyPost_ret (oresults_c rfl _ _ (w.heap.size + 1) 32 _ _ _ rfl (show _ = some (Obj.cells ([.slice B0 l0.length e0, .slice B1 l1.length e1] : List Value).toArray 32 (0, 0)) from E.out.box 2 rfl) Try.underlying32 rfl (by kernel_rfl)) rfl ?_
  exact ⟨_, rfl, fresh (d := kDisk) (kDisk_comb (E.out.made 0 rfl) (E.out.made 1 rfl) (fun k h1 h2 => by have o := O.out; (try simp only [Iv, true_and, or_false, false_or] at h1 h2) <;> omega)) (Nat.le_refl _), E.out.below⟩
def l08Copy_n_T1 : Bool × List (List Nat × List Nat) := (true, [([], []), ([0], [0]), ([1], [1]), ([], []), ([3], [3]), ([], []), ([], []), ([6], [6]), ([5, 7, 2], [5, 7]), ([], []), ([], []), ([10], [10]), ([9, 11, 8], [9, 11]), ([], []), ([], []), ([14], [14]), ([13, 15, 12], [13, 15]), ([2, 4, 8, 12, 16], [2, 4, 8, 12, 16]), ([17, 16, 0, 1, 2, 3, 4, 5, 6, 7, 8, 9, 10, 11, 12, 13, 14, 15, 16, 17], [17])])
def l08Copy_n_B1 : List Nat := [0, 1, 3, 0, 8, 0, 0, 64, 231, 0, 0, 1024, 4071, 0, 0, 16384, 65511, 131071, 262143]
theorem l08Copy_n_ok1_0 : regT (opsOf Try.f47 1) l08Copy_n_T1 l08Copy_n_B1 [18] (.p 0 (.t 1 (.p 3 (.t 4 (.p 6 (.t 7 (.p 10 (.t 11 (.p 14 (.t 15 (.four 2 5 9 13 (.three 5 9 13 (.three 8 9 13 (.two 9 13 (.two 12 13 (.e 13 (.e 16 (.p 17 (.l 18 .d)))) (.e 12 (.e 16 (.p 17 (.l 18 .d))))) (.e 9 (.e 12 (.e 16 (.p 17 (.l 18 .d)))))) (.two 8 13 (.two 12 13 (.e 13 (.e 16 (.p 17 (.l 18 .d)))) (.e 12 (.e 16 (.p 17 (.l 18 .d))))) (.e 8 (.e 12 (.e 16 (.p 17 (.l 18 .d)))))) (.two 8 9 (.e 9 (.e 12 (.e 16 (.p 17 (.l 18 .d))))) (.e 8 (.e 12 (.e 16 (.p 17 (.l 18 .d))))))) (.two 5 13 (.two 8 13 (.two 12 13 (.e 13 (.e 16 (.p 17 (.l 18 .d)))) (.e 12 (.e 16 (.p 17 (.l 18 .d))))) (.e 8 (.e 12 (.e 16 (.p 17 (.l 18 .d)))))) (.e 5 (.e 8 (.e 12 (.e 16 (.p 17 (.l 18 .d))))))) (.two 5 9 (.two 8 9 (.e 9 (.e 12 (.e 16 (.p 17 (.l 18 .d))))) (.e 8 (.e 12 (.e 16 (.p 17 (.l 18 .d)))))) (.e 5 (.e 8 (.e 12 (.e 16 (.p 17 (.l 18 .d)))))))) (.three 2 9 13 (.three 8 9 13 (.two 9 13 (.two 12 13 (.e 13 (.e 16 (.p 17 (.l 18 .d)))) (.e 12 (.e 16 (.p 17 (.l 18 .d))))) (.e 9 (.e 12 (.e 16 (.p 17 (.l 18 .d)))))) (.two 8 13 (.two 12 13 (.e 13 (.e 16 (.p 17 (.l 18 .d)))) (.e 12 (.e 16 (.p 17 (.l 18 .d))))) (.e 8 (.e 12 (.e 16 (.p 17 (.l 18 .d)))))) (.two 8 9 (.e 9 (.e 12 (.e 16 (.p 17 (.l 18 .d))))) (.e 8 (.e 12 (.e 16 (.p 17 (.l 18 .d))))))) (.two 2 13 (.two 8 13 (.two 12 13 (.e 13 (.e 16 (.p 17 (.l 18 .d)))) (.e 12 (.e 16 (.p 17 (.l 18 .d))))) (.e 8 (.e 12 (.e 16 (.p 17 (.l 18 .d)))))) (.e 2 (.e 8 (.e 12 (.e 16 (.p 17 (.l 18 .d))))))) (.two 2 9 (.two 8 9 (.e 9 (.e 12 (.e 16 (.p 17 (.l 18 .d))))) (.e 8 (.e 12 (.e 16 (.p 17 (.l 18 .d)))))) (.e 2 (.e 8 (.e 12 (.e 16 (.p 17 (.l 18 .d)))))))) (.three 2 5 13 (.two 5 13 (.two 8 13 (.two 12 13 (.e 13 (.e 16 (.p 17 (.l 18 .d)))) (.e 12 (.e 16 (.p 17 (.l 18 .d))))) (.e 8 (.e 12 (.e 16 (.p 17 (.l 18 .d)))))) (.e 5 (.e 8 (.e 12 (.e 16 (.p 17 (.l 18 .d))))))) (.two 2 13 (.two 8 13 (.two 12 13 (.e 13 (.e 16 (.p 17 (.l 18 .d)))) (.e 12 (.e 16 (.p 17 (.l 18 .d))))) (.e 8 (.e 12 (.e 16 (.p 17 (.l 18 .d)))))) (.e 2 (.e 8 (.e 12 (.e 16 (.p 17 (.l 18 .d))))))) (.two 2 5 (.e 5 (.e 8 (.e 12 (.e 16 (.p 17 (.l 18 .d)))))) (.e 2 (.e 8 (.e 12 (.e 16 (.p 17 (.l 18 .d)))))))) (.three 2 5 9 (.two 5 9 (.two 8 9 (.e 9 (.e 12 (.e 16 (.p 17 (.l 18 .d))))) (.e 8 (.e 12 (.e 16 (.p 17 (.l 18 .d)))))) (.e 5 (.e 8 (.e 12 (.e 16 (.p 17 (.l 18 .d))))))) (.two 2 9 (.two 8 9 (.e 9 (.e 12 (.e 16 (.p 17 (.l 18 .d))))) (.e 8 (.e 12 (.e 16 (.p 17 (.l 18 .d)))))) (.e 2 (.e 8 (.e 12 (.e 16 (.p 17 (.l 18 .d))))))) (.two 2 5 (.e 5 (.e 8 (.e 12 (.e 16 (.p 17 (.l 18 .d)))))) (.e 2 (.e 8 (.e 12 (.e 16 (.p 17 (.l 18 .d))))))))))))))))))) = true := by kernel_rfl
theorem l08Copy_n (l0 : List ByteArray) (l1 : List S135) (l2 : Int) (l3 l4 l5 : List Int) {cs : List Value} (w : World) (h : kWork.K w (l0, l1, l2, l3, l4, l5) cs) (hl : (l0.length ≤ 2000000 ∧ l1.length ≤ 2000000) ∧ l3.length ≤ 2000000 ∧ l4.length ≤ 2000000 ∧ l5.length ≤ 2000000) :
  Calls Try.prog 47 #[.agg cs.toArray] w fun e w' => ∃ ds : List Value, e = .returned (.agg ds.toArray) ∧ kWork.M w' w.heap.size (Fr w w') (l0, l1, l2, l3, l4, l5) ds ∧ Below w.heap.size w w' := by
 obtain ⟨A0, c0, A1, c1, A3, c3, A4, c4, A5, c5, rfl, m0, r0, m1, r1, m3, r3, m4, r4, m5, r5⟩ := kWork_open h
 have KD := Aside0.mk (kDisk_lit (w := w) ⟨_, _, rfl, m0, r0⟩ ⟨_, _, rfl, m1, r1⟩)
 have R3 := Aside0.mk r3; have R4 := Aside0.mk r4; have R5 := Aside0.mk r5; have LD := Aside0.mk hl.1; have L3 := Aside0.mk hl.2.1; have L4 := Aside0.mk hl.2.2.1; have L5 := Aside0.mk hl.2.2.2; clear h r0 r1 m0 m1 r3 m3 r4 m4 r5 m5 hl
 have O := Aside0.mk (Nat.le_refl w.heap.size)
 have E := Aside0.mk (Env.start w)
 go_enter Try.func47, Try.ntmps47
 go_upto_region 1 with (fail)
 replace O := Aside0.mk (And.intro E.out.le O.out)
 replace E := Aside0.mk (E.out.alloc [.slice A0 l0.length c0, .slice A1 l1.length c1, .int .i64 l2, .slice A3 l3.length c3, .slice A4 l4.length c4, .slice A5 l5.length c5] 34 (g := w.heap.size) rfl)
 replace E := Aside0.mk (E.out.alloc Z34 34 (g := (w.heap.size + 1)) (by simp))
 replace E := Aside0.mk E.out.nil_
 replace E := Aside0.mk E.out.nil_
 replace E := Aside0.mk E.out.nil_
 replace E := Aside0.mk E.out.nil_
 replace E := Aside0.mk E.out.drew
 refine tre_start l08Copy_n_ok1_0 (S := fun w' => w'.heap[w.heap.size]? = some (.cells ([.slice A0 l0.length c0, .slice A1 l1.length c1, .int .i64 l2, .slice A3 l3.length c3, .slice A4 l4.length c4, .slice A5 l5.length c5] : List Value).toArray 34 (0, 0)) ∧ True) (by kernel_rfl) (fun _ _ _ _ h => h) ⟨(E.out.box 5 rfl), trivial⟩ (fun hHeld => ?_)
 generalize hq : World.drew _ = w1_ at hHeld ⊢; replace E := E.out.to hq; clear hq
 (refine tre_p (v := ?_) (a' := ?_) rfl rfl (Or.inl ⟨by rfl, ?_⟩) ?_ ?_; rotate_left; (· intro w'; go_simp; with_reducible rfl); rotate_left; (· show Act.put _ (some _) _ = _; simp only [Act.put, s_A, s_0, s_1, i64_w]; try rfl))
 refine tre_loadpart (a' := ?ax2_) rfl rfl (by rfl) 32 _ rfl w.heap.size 0 [] [.slice A0 l0.length c0, .slice A1 l1.length c1] [.int .i64 l2, .slice A3 l3.length c3, .slice A4 l4.length c4, .slice A5 l5.length c5] _ rfl (fun w' hs => hs.1) (by first | rfl | (simp only [aA, aN, aL]; first | done | rfl)) (rfl) Try.underlying32 rfl (by kernel_rfl) ?px2_ ?kx2_
 case px2_ => (show Act.put _ (some _) _ = _; simp only [Act.put, s_A, s_0, s_1, i64_w]; try rfl)
 (refine tre_p (v := ?_) (a' := ?_) rfl rfl (Or.inl ⟨by rfl, ?_⟩) ?_ ?_; rotate_left; (· intro w'; go_simp; with_reducible rfl); rotate_left; (· show Act.put _ (some _) _ = _; simp only [Act.put, s_A, s_0, s_1, i64_w]; try rfl))
 refine tre_loadcell (a' := ?ax3_) rfl rfl (by rfl) 3 _ rfl w.heap.size 2 [.slice A0 l0.length c0, .slice A1 l1.length c1] (.int .i64 l2) [.slice A3 l3.length c3, .slice A4 l4.length c4, .slice A5 l5.length c5] _ rfl (fun w' hs => hs.1) (by first | rfl | (simp only [aA, aN, aL]; first | done | rfl)) (rfl) Try.underlying3 rfl ?px3_ ?kx3_
 case px3_ => (show Act.put _ (some _) _ = _; simp only [Act.put, s_A, s_0, s_1, i64_w]; try rfl)
 (refine tre_p (v := ?_) (a' := ?_) rfl rfl (Or.inl ⟨by rfl, ?_⟩) ?_ ?_; rotate_left; (· intro w'; go_simp; with_reducible rfl); rotate_left; (· show Act.put _ (some _) _ = _; simp only [Act.put, s_A, s_0, s_1, i64_w]; try rfl))
 refine tre_loadcell (a' := ?ax4_) rfl rfl (by rfl) 26 _ rfl w.heap.size 3 [.slice A0 l0.length c0, .slice A1 l1.length c1, .int .i64 l2] (.slice A3 l3.length c3) [.slice A4 l4.length c4, .slice A5 l5.length c5] _ rfl (fun w' hs => hs.1) (by first | rfl | (simp only [aA, aN, aL]; first | done | rfl)) (rfl) Try.underlying26 rfl ?px4_ ?kx4_
 case px4_ => (show Act.put _ (some _) _ = _; simp only [Act.put, s_A, s_0, s_1, i64_w]; try rfl)
 (refine tre_p (v := ?_) (a' := ?_) rfl rfl (Or.inl ⟨by rfl, ?_⟩) ?_ ?_; rotate_left; (· intro w'; go_simp; with_reducible rfl); rotate_left; (· show Act.put _ (some _) _ = _; simp only [Act.put, s_A, s_0, s_1, i64_w]; try rfl))
 refine tre_loadcell (a' := ?ax5_) rfl rfl (by rfl) 26 _ rfl w.heap.size 4 [.slice A0 l0.length c0, .slice A1 l1.length c1, .int .i64 l2, .slice A3 l3.length c3] (.slice A4 l4.length c4) [.slice A5 l5.length c5] _ rfl (fun w' hs => hs.1) (by first | rfl | (simp only [aA, aN, aL]; first | done | rfl)) (rfl) Try.underlying26 rfl ?px5_ ?kx5_
 case px5_ => (show Act.put _ (some _) _ = _; simp only [Act.put, s_A, s_0, s_1, i64_w]; try rfl)
 (refine tre_p (v := ?_) (a' := ?_) rfl rfl (Or.inl ⟨by rfl, ?_⟩) ?_ ?_; rotate_left; (· intro w'; go_simp; with_reducible rfl); rotate_left; (· show Act.put _ (some _) _ = _; simp only [Act.put, s_A, s_0, s_1, i64_w]; try rfl))
 refine tre_loadcell (a' := ?ax6_) rfl rfl (by rfl) 26 _ rfl w.heap.size 5 [.slice A0 l0.length c0, .slice A1 l1.length c1, .int .i64 l2, .slice A3 l3.length c3, .slice A4 l4.length c4] (.slice A5 l5.length c5) [] _ rfl (fun w' hs => hs.1) (by first | rfl | (simp only [aA, aN, aL]; first | done | rfl)) (rfl) Try.underlying26 rfl ?px6_ ?kx6_
 case px6_ => (show Act.put _ (some _) _ = _; simp only [Act.put, s_A, s_0, s_1, i64_w]; try rfl)
 repeat' (first
  | (refine tre_four rfl rfl rfl rfl ?_ ?_ ?_ ?_)
  | (refine tre_three rfl rfl rfl ?_ ?_ ?_)
  | (refine tre_two rfl rfl ?_ ?_)
  | (refine tre_e rfl ?_)
  | ((with_reducible refine ev1_gate (N := 8) rfl ?_); refine ev1_lit0 (N := some 8) E.out 0 rfl (by rfl) 26 3 rfl Try.underlying26 1 (by kernel_rfl) (Kd.int .i64) ?_; intro g0 W hg hE; have q := And.intro hg O.out; clear O E hg; have O := Aside0.mk q; have E := Aside0.mk hE; clear q hE; refine ⟨⟨E.out.box 5 rfl, trivial⟩, fun hHeld => ?_⟩; refine tre_norm (a' := ?_) ?_ ?_; rotate_left; (· show Act.put _ (some 8) _ = _; simp only [Act.put, s_A, s_0, s_1, i64_w]; try rfl))
  | ((with_reducible refine ev1_gate (N := 11) rfl ?_); refine ev1_appendrow (N := some 11) E.out rfl (by rfl) _ _ 26 3 (.int .i64 0) 8 rfl (Kd.int .i64) rfl Try.underlying26 info3 rfl (by decide) (by decide) 0 (g := g0) rfl R3.out (fun _ _ h => h) rfl rfl (by have := L3.out; omega) (by have o := O.out; omega) (by have o := O.out; dsimp only [Off2, Off2.Off2A, Fct.box, Fct.made, Fct.nil, List.set]; and_intros <;> first | trivial | omega) ?_; intro u W b0 t0 hg hE; have q := And.intro hg O.out; clear O E hg; have O := Aside0.mk q; have E := Aside0.mk hE; clear q hE; obtain ⟨B0, e0, hv, -⟩ := E.out.mk_ 0 rfl; injection hv with hv; subst hv; refine ⟨⟨E.out.box 5 rfl, trivial⟩, fun hHeld => ?_⟩; refine tre_norm (a' := ?_) ?_ ?_; rotate_left; (· show Act.put _ (some 11) _ = _; simp only [Act.put, s_A, s_0, s_1, i64_w]; try rfl))
  | ((with_reducible refine ev1_gate (N := 12) rfl ?_); refine ev1_lit0 (N := some 12) E.out 1 rfl (by rfl) 26 3 rfl Try.underlying26 1 (by kernel_rfl) (Kd.int .i64) ?_; intro g1 W hg hE; have q := And.intro hg O.out; clear O E hg; have O := Aside0.mk q; have E := Aside0.mk hE; clear q hE; refine ⟨⟨E.out.box 5 rfl, trivial⟩, fun hHeld => ?_⟩; refine tre_norm (a' := ?_) ?_ ?_; rotate_left; (· show Act.put _ (some 12) _ = _; simp only [Act.put, s_A, s_0, s_1, i64_w]; try rfl))
  | ((with_reducible refine ev1_gate (N := 15) rfl ?_); refine ev1_appendrow (N := some 15) E.out rfl (by rfl) _ _ 26 3 (.int .i64 0) 8 rfl (Kd.int .i64) rfl Try.underlying26 info3 rfl (by decide) (by decide) 1 (g := g1) rfl R4.out (fun _ _ h => h) rfl rfl (by have := L4.out; omega) (by have o := O.out; omega) (by have o := O.out; dsimp only [Off2, Off2.Off2A, Fct.box, Fct.made, Fct.nil, List.set]; and_intros <;> first | trivial | omega) ?_; intro u W b1 t1 hg hE; have q := And.intro hg O.out; clear O E hg; have O := Aside0.mk q; have E := Aside0.mk hE; clear q hE; obtain ⟨B1, e1, hv, -⟩ := E.out.mk_ 1 rfl; injection hv with hv; subst hv; refine ⟨⟨E.out.box 5 rfl, trivial⟩, fun hHeld => ?_⟩; refine tre_norm (a' := ?_) ?_ ?_; rotate_left; (· show Act.put _ (some 15) _ = _; simp only [Act.put, s_A, s_0, s_1, i64_w]; try rfl))
  | ((with_reducible refine ev1_gate (N := 16) rfl ?_); refine ev1_lit0 (N := some 16) E.out 2 rfl (by rfl) 26 3 rfl Try.underlying26 1 (by kernel_rfl) (Kd.int .i64) ?_; intro g2 W hg hE; have q := And.intro hg O.out; clear O E hg; have O := Aside0.mk q; have E := Aside0.mk hE; clear q hE; refine ⟨⟨E.out.box 5 rfl, trivial⟩, fun hHeld => ?_⟩; refine tre_norm (a' := ?_) ?_ ?_; rotate_left; (· show Act.put _ (some 16) _ = _; simp only [Act.put, s_A, s_0, s_1, i64_w]; try rfl))
  | ((with_reducible refine ev1_gate (N := 19) rfl ?_); refine ev1_appendrow (N := some 19) E.out rfl (by rfl) _ _ 26 3 (.int .i64 0) 8 rfl (Kd.int .i64) rfl Try.underlying26 info3 rfl (by decide) (by decide) 2 (g := g2) rfl R5.out (fun _ _ h => h) rfl rfl (by have := L5.out; omega) (by have o := O.out; omega) (by have o := O.out; dsimp only [Off2, Off2.Off2A, Fct.box, Fct.made, Fct.nil, List.set]; and_intros <;> first | trivial | omega) ?_; intro u W b2 t2 hg hE; have q := And.intro hg O.out; clear O E hg; have O := Aside0.mk q; have E := Aside0.mk hE; clear q hE; obtain ⟨B2, e2, hv, -⟩ := E.out.mk_ 2 rfl; injection hv with hv; subst hv; refine ⟨⟨E.out.box 5 rfl, trivial⟩, fun hHeld => ?_⟩; refine tre_norm (a' := ?_) ?_ ?_; rotate_left; (· show Act.put _ (some 19) _ = _; simp only [Act.put, s_A, s_0, s_1, i64_w]; try rfl))
  | ((with_reducible refine ev1_gate (N := 5) rfl ?_); refine ev1_call (N := some 5) rfl Try.func65 (by kernel_rfl) rfl #[.agg #[.slice A0 l0.length c0, .slice A1 l1.length c1]] (by rfl) rfl (by (try simp only [List.map_toArray, List.map_cons, List.map_nil]); first | done | rfl) ?_; with_reducible refine (l03Copy_n l0 l1 _ (E.out.K KD.out) LD.out).mono ?_; rintro e W ⟨d, rfl, M, hb⟩; obtain ⟨nd, md, hg, hE⟩ := E.out.madeAt 3 M hb; have q := And.intro hg O.out; clear O E hg M hb; have O := Aside0.mk q; have E := Aside0.mk hE; clear q hE; obtain ⟨D0, f0, D1, f1, rfl, -⟩ := kDisk_open (E.out.mk_ 3 rfl); refine ⟨_, rfl, ⟨E.out.box 5 rfl, trivial⟩, fun hHeld => ?_⟩; refine tre_norm (a' := ?_) ?_ ?_; rotate_left; (· show Act.put _ (some 5) _ = _; simp only [Act.put, s_A, s_0, s_1, i64_w]; try rfl)))
 all_goals
  (refine tre_p (v := ?_) (a' := ?_) rfl rfl (Or.inl ⟨by rfl, ?_⟩) ?_ ?_; rotate_left; (· intro w'; go_simp; with_reducible rfl); rotate_left; (· show Act.put _ (some _) _ = _; simp only [Act.put, s_A, s_0, s_1, i64_w]; try rfl))
  refine tre_l rfl (ev1_storepart rfl (by rfl) 34 _ _ rfl (w.heap.size + 1) 0 [.slice D0 l0.length f0, .slice D1 l1.length f1, .int .i64 l2, .slice B0 l3.length e0, .slice B1 l4.length e1, .slice B2 l5.length e2] [] Z34 [] rfl rfl (E.out.box 4 rfl) rfl rfl rfl (by kernel_rfl) (onesC rfl (onesC rfl (onesC rfl (onesC rfl (onesC rfl (onesC rfl onesN)))))) (fun W hp hn => ?_))
  replace E := E.out.put2 4 hp hn (by have o := O.out; dsimp only [Off, OffA, Fct.box, Fct.made, Fct.nil, List.set]; and_intros <;> first | trivial | omega)
  refine tre_done ?_
  clear hHeld hp hn
  go_wp2_with fail
  refine bodyPost_ret (oresults_c rfl _ _ (w.heap.size + 1) 34 _ _ _ rfl (show _ = some (Obj.cells ([.slice D0 l0.length f0, .slice D1 l1.length f1, .int .i64 l2, .slice B0 l3.length e0, .slice B1 l4.length e1, .slice B2 l5.length e2] : List Value).toArray 34 (0, 0)) from E.out.box 4 rfl) Try.underlying34 rfl (by kernel_rfl)) rfl ?_
  exact ⟨_, rfl, fresh (d := kWork) (kWork_of (E.out.made 3 rfl) (E.out.made 0 rfl) (E.out.made 1 rfl) (E.out.made 2 rfl) (fun k h1 h2 => by have o := O.out; (try simp only [Iv, true_and, or_false, false_or] at h1 h2) <;> omega) (fun k h1 h2 => by have o := O.out; (try simp only [Iv, true_and, or_false, false_or] at h1 h2) <;> omega) (fun k h1 h2 => by have o := O.out; (try simp only [Iv, true_and, or_false, false_or] at h1 h2) <;> omega)) (Nat.le_refl _), E.out.below⟩
def impl_cloneMeta.l0 : Nat → List (S122) → List (S122) → Int → Int → Int → Int → Int → List (S122) → Option (Int × Int × Int × (List (S122)))
 | 0, _, _, _, _, _, _, _, _ => none
 | k + 1, x3, x7, x8, x9, x419000, x419001, x419002, x419003 => if x9 < x8 then (if 0 ≤ x9 then (if x9 < (x7.length : Int) then ((slices_Clone_int_int.f ((rd_T122 x7 x9).f1)).bind fun t422 => (if x3.length < 4398046511104 then (impl_cloneMeta.l0 k (x3 ++ [(⟨(rd_T122 x7 x9).f0, t422⟩ : S122)]) x7 x8 (wrap64 (x9 + 1)) x419000 x419001 x419002 x419003) else (none))) else (none)) else (none)) else (some (x419000, x419001, x419002, x3))
def impl_cloneMeta.f (k : Nat) (a0_0 : Int) (a0_1 : Int) (a0_2 : Int) (l0_3 : List (S122)) : Option (Int × Int × Int × (List (S122))) := impl_cloneMeta.l0 k ([] : List (S122)) l0_3 (l0_3.length : Int) 0 a0_0 a0_1 a0_2 l0_3
def impl_cloneMeta.T5 : Bool × List (List Nat × List Nat) := (true, [([], []), ([], []), ([1], [1]), ([], []), ([3], [3]), ([4], [4]), ([2, 5], [2, 5]), ([6], [6]), ([0, 7, 5], [0, 7]), ([8, 8, 0, 1, 2, 3, 4, 5, 6, 7, 8], [0, 8])])
def impl_cloneMeta.B5 : List Nat := [0, 0, 2, 0, 8, 24, 62, 126, 255, 511]
theorem impl_cloneMeta.tab5 : rtab .any (opsOf Try.f90 5) = impl_cloneMeta.T5 := by kernel_rfl
theorem impl_cloneMeta.bits5 : waitsOk impl_cloneMeta.T5.2 impl_cloneMeta.B5 = true := by kernel_rfl
theorem impl_cloneMeta.calls (k : Nat) (a0_0 : Int) (a0_1 : Int) (a0_2 : Int) (A0_3 : Option Addr) (c0_3 : Nat) (l0_3 : List (S122)) (r1 : Int) (r2 : Int) (r3 : Int) (r4 : List (S122)) (w : World) (hr0_3 : Kd.C k122 w A0_3 l0_3.length l0_3) (hc0_3 : l0_3.length ≤ c0_3) (h : impl_cloneMeta.f k a0_0 a0_1 a0_2 l0_3 = some (r1, r2, r3, r4)) :
  Calls Try.prog 90 #[.agg #[.int .i64 a0_0, .int .i64 a0_1, .int .i64 a0_2, .slice A0_3 l0_3.length c0_3]] w fun e w' => ∃ v3_ : Value, e = .returned (.agg #[.int .i64 r1, .int .i64 r2, .int .i64 r3, v3_]) ∧ Kd.S k122 122 w' w.heap.size (fun _ => True) v3_ r4 ∧ Below w.heap.size w w' := by
 have hu53 := Try.underlying53
 have hu122 := Try.underlying122
 have HR0_3 := Aside0.mk hr0_3
 have HC0_3 := Aside0.mk hc0_3
 clear hr0_3 hc0_3
 have HB := Aside0.mk (Below.refl w.heap.size w)
 have H : (impl_cloneMeta.l0 k ([] : List (S122)) l0_3 (l0_3.length : Int) 0 a0_0 a0_1 a0_2 l0_3) = some (r1, r2, r3, r4) := h
 clear h
 have H' := Aside0.mk H
 clear H
 go_enter Try.func90, Try.ntmps90
 go_wp2_with (first | ((with_reducible refine gate_dst (N := 1) rfl ?_); refine box_event ?hg (N := 1) ?hd (cs := #[.int .i64 a0_0, .int .i64 a0_1, .int .i64 a0_2, .slice A0_3 l0_3.length c0_3]) (t := 53) ?hr ?_; (case hd => rfl); (case hg => rfl); (case hr => first | (go_simp; done) | (go_simp; rfl)); intro gb418 hg w2 hbox hb; have n0_ := Aside0.mk (below_step (by repeat (first | (with_reducible first | exact HB.out | apply below_alloc | apply pw_below_drewN | apply below_drew1) | exact HB.out)) hb); have n1_ := Aside0.mk (hbox); have n2_ := Aside0.mk ((by rw [hg]; exact (below_size (by repeat (first | (with_reducible first | exact HB.out | apply below_alloc | apply pw_below_drewN | apply below_drew1) | exact HB.out))) : w.heap.size ≤ gb418)); have n3_ := Aside0.mk ((by rw [hg]; exact (below_size (by repeat (first | (with_reducible first | exact HB.out | apply below_alloc | apply pw_below_drewN | apply below_drew1) | exact HB.out))) : w.heap.size ≤ gb418)); clear HB; have HB := n0_; have BK418 := n1_; have GW418 := n2_; have GE418 := n3_; clear n0_ n1_ n2_ n3_; clear hb hbox hg) | ((with_reducible refine gate_dst (N := 2) rfl ?_); refine box_event ?hg (N := 2) ?hd (cs := #[.int .i64 0, .int .i64 0, .int .i64 0, .slice none 0 0]) (t := 53) ?hr ?_; (case hd => rfl); (case hg => rfl); (case hr => first | (go_simp; done) | (go_simp; rfl)); intro gb419 hg w3 hbox hb; have n0_ := Aside0.mk (blk_below (g := gb418) (o := .cells #[.int .i64 a0_0, .int .i64 a0_1, .int .i64 a0_2, .slice A0_3 l0_3.length c0_3] 53 (0, 0)) (by (with_reducible repeat (first | refine blk_drewN ?_ _ | refine blk_drew ?_ | refine blk_alloc ?_ _)); exact BK418.out) hb); have n1_ := Aside0.mk (below_step (by repeat (first | (with_reducible first | exact HB.out | apply below_alloc | apply pw_below_drewN | apply below_drew1 | refine below_set ?_ GE418.out) | exact HB.out)) hb); have n2_ := Aside0.mk (hbox); have n3_ := Aside0.mk ((by rw [hg]; exact (below_size (by repeat (first | (with_reducible first | exact HB.out | apply below_alloc | apply pw_below_drewN | apply below_drew1 | refine below_set ?_ GE418.out) | exact HB.out))) : w.heap.size ≤ gb419)); have n4_ := Aside0.mk ((by rw [hg]; exact (below_size (by repeat (first | (with_reducible first | exact HB.out | apply below_alloc | apply pw_below_drewN | apply below_drew1 | refine below_set ?_ GE418.out) | exact HB.out))) : w.heap.size ≤ gb419)); have n5_ := Aside0.mk ((by rw [hg]; exact Nat.ne_of_lt (blk_lt (g := gb418) (o := .cells #[.int .i64 a0_0, .int .i64 a0_1, .int .i64 a0_2, .slice A0_3 l0_3.length c0_3] 53 (0, 0)) (by (with_reducible repeat (first | refine blk_drewN ?_ _ | refine blk_drew ?_ | refine blk_alloc ?_ _)); exact BK418.out)) : gb418 ≠ gb419)); have n6_ := Aside0.mk ((by rw [hg]; exact Nat.ne_of_gt (blk_lt (g := gb418) (o := .cells #[.int .i64 a0_0, .int .i64 a0_1, .int .i64 a0_2, .slice A0_3 l0_3.length c0_3] 53 (0, 0)) (by (with_reducible repeat (first | refine blk_drewN ?_ _ | refine blk_drew ?_ | refine blk_alloc ?_ _)); exact BK418.out)) : gb419 ≠ gb418)); clear BK418; clear HB; have BK418 := n0_; have HB := n1_; have BK419 := n2_; have GW419 := n3_; have GE419 := n4_; have NB418_419 := n5_; have NB419_418 := n6_; clear n0_ n1_ n2_ n3_ n4_ n5_ n6_; clear hb hbox hg; have hnb4 := NB418_419.out; have hnc4 := NB419_418.out; have hcz5_0 : w3.cell? ⟨gb418, 0, none⟩ = some (.int .i64 a0_0) := (blk_cell BK418.out 0).trans rfl; have hcz5_1 : w3.cell? ⟨gb418, 1, none⟩ = some (.int .i64 a0_1) := (blk_cell BK418.out 1).trans rfl; have hcz5_2 : w3.cell? ⟨gb418, 2, none⟩ = some (.int .i64 a0_2) := (blk_cell BK418.out 2).trans rfl; have hcz5_3 : w3.cell? ⟨gb418, 3, none⟩ = some (.slice A0_3 l0_3.length c0_3) := (blk_cell BK418.out 3).trans rfl; have hfz5_0 := blk_frozen BK418.out 0; have hfz5_1 := blk_frozen BK418.out 1; have hfz5_2 := blk_frozen BK418.out 2; have hfz5_3 := blk_frozen BK418.out 3))
 go_loopg [3, 9] k (fun kq v3 v9 w' => ∃ (x3_1 : List (S122)) (x9_1 : Int), v9 = .int .i64 x9_1 ∧ Aside0 (impl_cloneMeta.l0 kq x3_1 l0_3 (l0_3.length : Int) x9_1 a0_0 a0_1 a0_2 l0_3 = some (r1, r2, r3, r4)) ∧ Aside0 (kq ≤ k) ∧ Aside0 (Kd.S k122 122 w' w.heap.size (fun _ => True) v3 x3_1) ∧ Aside0 (w'.heap[gb418]? = some (.cells #[.int .i64 a0_0, .int .i64 a0_1, .int .i64 a0_2, (.slice A0_3 l0_3.length c0_3)] 53 (0, 0))) ∧ Aside0 (w'.heap[gb419]? = some (.cells #[.int .i64 0, .int .i64 0, .int .i64 0, (.slice none 0 0)] 53 (0, 0))) ∧ Aside0 (Below w.heap.size w w'))
 case atStart => exact ⟨(([] : List (S122))), (0), (by first | rfl | (simp; done) | (simp [*]; done)), H', ⟨Nat.le_refl _⟩, ⟨by first | exact Kd.S_nil _ _ _ _ _ | exact Kd.N_nil _ _ _ _ _ | exact Kd.V_nil _ _ _ _ _ | exact Kd.Q_nil _ _ _ _ _ | exact Kd.R_nil _ _ _ _ _⟩, ⟨by (with_reducible repeat (first | refine blk_drewN ?_ _ | refine blk_drew ?_ | refine blk_alloc ?_ _)); exact BK418.out⟩, ⟨by (with_reducible repeat (first | refine blk_drewN ?_ _ | refine blk_drew ?_ | refine blk_alloc ?_ _)); exact BK419.out⟩, ⟨by repeat (first | (with_reducible first | exact HB.out | apply below_alloc | apply pw_below_drewN | apply below_drew1 | refine below_set ?_ GE418.out | refine below_set ?_ GE419.out) | exact HB.out)⟩⟩
 case round =>
  clear H'
  try clear hcz5_0
  try clear hcz5_1
  try clear hcz5_2
  try clear hcz5_3
  try clear hfz5_0
  try clear hfz5_1
  try clear hfz5_2
  try clear hfz5_3
  obtain ⟨x3_1, x9_1, rfl, HA, HK1, HO_3, BK418, BK419, HB⟩ := hrel
  cases gk with
  | zero => exact absurd HA.out (by simp [impl_cloneMeta.l0])
  | succ k1 =>
   have H := HA.out
   clear HA
   simp only [impl_cloneMeta.l0] at H
   by_cases c6 : x9_1 < (l0_3.length : Int)
   ·rw [if_pos c6] at H
    have c6b0 : decide (x9_1 < (l0_3.length : Int)) = true := decide_eq_true c6
    clear c6
    by_cases c7 : 0 ≤ x9_1
    ·rw [if_pos c7] at H
     have c7b0 : decide (0 ≤ x9_1) = true := decide_eq_true c7
     clear c7
     by_cases c8 : x9_1 < (l0_3.length : Int)
     ·rw [if_pos c8] at H
      have c8b0 : decide (x9_1 < (l0_3.length : Int)) = true := decide_eq_true c8
      clear c8
      replace H := Option.bind_eq_some_iff.mp H
      obtain ⟨t422, A90, H⟩ := H
      replace H : (if x3_1.length < 4398046511104 then (impl_cloneMeta.l0 k1 (x3_1 ++ [(⟨(rd_T122 l0_3 x9_1).f0, t422⟩ : S122)]) l0_3 (l0_3.length : Int) (wrap64 (x9_1 + 1)) a0_0 a0_1 a0_2 l0_3) else (none)) = some (r1, r2, r3, r4) := H
      have A9 := Aside0.mk A90
      clear A90
      by_cases c10 : x3_1.length < 4398046511104
      ·rw [if_pos c10] at H
       have LMc10 := Aside0.mk c10
       clear c10
       obtain ⟨y425, hy425⟩ : ∃ y_ : List (S122), y_ = (x3_1 ++ [(⟨(rd_T122 l0_3 x9_1).f0, t422⟩ : S122)]) := ⟨_, rfl⟩
       replace H : (impl_cloneMeta.l0 k1 y425 l0_3 (l0_3.length : Int) (wrap64 (x9_1 + 1)) a0_0 a0_1 a0_2 l0_3) = some (r1, r2, r3, r4) := by first | (rw [hy425]; with_reducible exact H) | (have H2_ := (Option.bind_some _ _).symm.trans H; rw [hy425]; with_reducible exact H2_) | (have H2_ := (Option.bind_some _ _).symm.trans H; with_reducible exact H2_) | with_reducible exact H | (rw [hy425]; exact H) | exact H
       have Ny425 := Aside0.mk hy425
       clear hy425
       have H' := Aside0.mk H
       clear H
       have p420 : 0 ≤ (x9_1 : Int) := of_decide_eq_true (by with_reducible assumption)
       have q420 : x9_1 < (l0_3.length : Int) := of_decide_eq_true (by with_reducible assumption)
       obtain ⟨ad420, A420_1, c420_1, e420, hx420_0, hx420_1, hl420_1, hi420_1⟩ := at_T122 HR0_3.out x9_1 p420 q420
       cases e420
       replace hx420_0 := (HB.out.cell (World.block_lt_of_cell? w _ hx420_0)).trans hx420_0
       replace hx420_1 := (HB.out.cell (World.block_lt_of_cell? w _ hx420_1)).trans hx420_1
       have HR420_1 := Aside0.mk hi420_1
       have HC420_1 := Aside0.mk hl420_1
       clear hi420_1 hl420_1
       replace p420 := eq_true p420
       replace q420 := eq_true q420
       try go_wp2_with (first | ((with_reducible refine gate_dst (N := 5) rfl ?_); refine box_event ?hg (N := 5) ?hd (cs := #[.int .i64 0, .slice none 0 0]) (t := 122) ?hr ?_; (case hd => rfl); (case hg => rfl); (case hr => first | (go_simp; done) | (go_simp; rfl)); intro gb421 hg w11 hbox hb; have n0_ := Aside0.mk (Kd.S_below (Kd.S_elderB (by (with_reducible repeat (first | apply Kd.S_alloc | apply Kd.S_drewN | apply Kd.S_drew)); exact HO_3.out) gb421 (Nat.le_of_eq hg.symm)) hb); have n1_ := Aside0.mk (blk_below (g := gb418) (o := .cells #[.int .i64 a0_0, .int .i64 a0_1, .int .i64 a0_2, .slice (some ad420) l0_3.length c0_3] 53 (0, 0)) (by (with_reducible repeat (first | refine blk_drewN ?_ _ | refine blk_drew ?_ | refine blk_alloc ?_ _)); exact BK418.out) hb); have n2_ := Aside0.mk (blk_below (g := gb419) (o := .cells #[.int .i64 0, .int .i64 0, .int .i64 0, .slice none 0 0] 53 (0, 0)) (by (with_reducible repeat (first | refine blk_drewN ?_ _ | refine blk_drew ?_ | refine blk_alloc ?_ _)); exact BK419.out) hb); have n3_ := Aside0.mk (below_step (by repeat (first | (with_reducible first | exact HB.out | apply below_alloc | apply pw_below_drewN | apply below_drew1 | refine below_set ?_ GE418.out | refine below_set ?_ GE419.out) | exact HB.out)) hb); have n4_ := Aside0.mk (hbox); have n5_ := Aside0.mk ((by rw [hg]; exact (below_size (by repeat (first | (with_reducible first | exact HB.out | apply below_alloc | apply pw_below_drewN | apply below_drew1 | refine below_set ?_ GE418.out | refine below_set ?_ GE419.out) | exact HB.out))) : w.heap.size ≤ gb421)); have n6_ := Aside0.mk ((by rw [hg]; exact (below_size (by repeat (first | (with_reducible first | exact HB.out | apply below_alloc | apply pw_below_drewN | apply below_drew1 | refine below_set ?_ GE418.out | refine below_set ?_ GE419.out) | exact HB.out))) : w.heap.size ≤ gb421)); have n7_ := Aside0.mk ((by rw [hg]; exact Nat.ne_of_lt (blk_lt (g := gb418) (o := .cells #[.int .i64 a0_0, .int .i64 a0_1, .int .i64 a0_2, .slice (some ad420) l0_3.length c0_3] 53 (0, 0)) (by (with_reducible repeat (first | refine blk_drewN ?_ _ | refine blk_drew ?_ | refine blk_alloc ?_ _)); exact BK418.out)) : gb418 ≠ gb421)); have n8_ := Aside0.mk ((by rw [hg]; exact Nat.ne_of_gt (blk_lt (g := gb418) (o := .cells #[.int .i64 a0_0, .int .i64 a0_1, .int .i64 a0_2, .slice (some ad420) l0_3.length c0_3] 53 (0, 0)) (by (with_reducible repeat (first | refine blk_drewN ?_ _ | refine blk_drew ?_ | refine blk_alloc ?_ _)); exact BK418.out)) : gb421 ≠ gb418)); have n9_ := Aside0.mk ((by rw [hg]; exact Nat.ne_of_lt (blk_lt (g := gb419) (o := .cells #[.int .i64 0, .int .i64 0, .int .i64 0, .slice none 0 0] 53 (0, 0)) (by (with_reducible repeat (first | refine blk_drewN ?_ _ | refine blk_drew ?_ | refine blk_alloc ?_ _)); exact BK419.out)) : gb419 ≠ gb421)); have n10_ := Aside0.mk ((by rw [hg]; exact Nat.ne_of_gt (blk_lt (g := gb419) (o := .cells #[.int .i64 0, .int .i64 0, .int .i64 0, .slice none 0 0] 53 (0, 0)) (by (with_reducible repeat (first | refine blk_drewN ?_ _ | refine blk_drew ?_ | refine blk_alloc ?_ _)); exact BK419.out)) : gb421 ≠ gb419)); clear HO_3; clear BK418; clear BK419; clear HB; have HO_3 := n0_; have BK418 := n1_; have BK419 := n2_; have HB := n3_; have BK421 := n4_; have GW421 := n5_; have GE421 := n6_; have NB418_421 := n7_; have NB421_418 := n8_; have NB419_421 := n9_; have NB421_419 := n10_; clear n0_ n1_ n2_ n3_ n4_ n5_ n6_ n7_ n8_ n9_ n10_; clear hb hbox hg; have hnb12 := NB421_418.out; have hnc12 := NB418_421.out; have hnb13 := NB421_419.out; have hnc13 := NB419_421.out; have hcz14_0 : w11.cell? ⟨gb421, 0, none⟩ = some (.int .i64 0) := (blk_cell BK421.out 0).trans rfl; have hcz14_1 : w11.cell? ⟨gb421, 1, none⟩ = some (.slice none 0 0) := (blk_cell BK421.out 1).trans rfl; have hfz14_0 := blk_frozen BK421.out 0; have hfz14_1 := blk_frozen BK421.out 1))
       have n0_ : Aside0 (Kd.S k122 122 ((w11.setCell ⟨gb421, 0, none⟩ (.int .i64 ((rd_T122 l0_3 x9_1).f0))).setCell ⟨gb421, 1, none⟩ (.slice A420_1 ((rd_T122 l0_3 x9_1).f1).length c420_1)) w.heap.size (fun k_ => k_ ≠ gb421) u3 x3_1) := ⟨by (with_reducible repeat (first | apply Kd.S_alloc | apply Kd.S_drewN | apply Kd.S_drew)); exact Kd.S_mono (Kd.S_far (p := ⟨gb421, 1, none⟩) (Kd.S_far (p := ⟨gb421, 0, none⟩) (Kd.S_mono HO_3.out (fun k_ hk => (⟨hk, hk.2⟩ : _ ∧ k_ ≠ gb421))) (fun _ hk => hk.2) (.int .i64 ((rd_T122 l0_3 x9_1).f0))) (fun _ hk => hk.2) (.slice A420_1 ((rd_T122 l0_3 x9_1).f1).length c420_1)) (fun _ hk => hk.1.2)⟩
       have n1_ : Aside0 (((w11.setCell ⟨gb421, 0, none⟩ (.int .i64 ((rd_T122 l0_3 x9_1).f0))).setCell ⟨gb421, 1, none⟩ (.slice A420_1 ((rd_T122 l0_3 x9_1).f1).length c420_1)).heap[gb418]? = some (.cells #[.int .i64 a0_0, .int .i64 a0_1, .int .i64 a0_2, .slice (some ad420) l0_3.length c0_3] 53 (0, 0))) := ⟨by (with_reducible repeat (first | refine blk_drewN ?_ _ | refine blk_drew ?_ | refine blk_alloc ?_ _)); refine blk_far ?_ NB418_421.out _; (with_reducible repeat (first | refine blk_drewN ?_ _ | refine blk_drew ?_ | refine blk_alloc ?_ _)); refine blk_far ?_ NB418_421.out _; (with_reducible repeat (first | refine blk_drewN ?_ _ | refine blk_drew ?_ | refine blk_alloc ?_ _)); exact BK418.out⟩
       have n2_ : Aside0 (((w11.setCell ⟨gb421, 0, none⟩ (.int .i64 ((rd_T122 l0_3 x9_1).f0))).setCell ⟨gb421, 1, none⟩ (.slice A420_1 ((rd_T122 l0_3 x9_1).f1).length c420_1)).heap[gb419]? = some (.cells #[.int .i64 0, .int .i64 0, .int .i64 0, .slice none 0 0] 53 (0, 0))) := ⟨by (with_reducible repeat (first | refine blk_drewN ?_ _ | refine blk_drew ?_ | refine blk_alloc ?_ _)); refine blk_far ?_ NB419_421.out _; (with_reducible repeat (first | refine blk_drewN ?_ _ | refine blk_drew ?_ | refine blk_alloc ?_ _)); refine blk_far ?_ NB419_421.out _; (with_reducible repeat (first | refine blk_drewN ?_ _ | refine blk_drew ?_ | refine blk_alloc ?_ _)); exact BK419.out⟩
       have n3_ : Aside0 (((w11.setCell ⟨gb421, 0, none⟩ (.int .i64 ((rd_T122 l0_3 x9_1).f0))).setCell ⟨gb421, 1, none⟩ (.slice A420_1 ((rd_T122 l0_3 x9_1).f1).length c420_1)).heap[gb421]? = some (.cells #[.int .i64 ((rd_T122 l0_3 x9_1).f0), .slice A420_1 ((rd_T122 l0_3 x9_1).f1).length c420_1] 122 (0, 0))) := ⟨by (with_reducible repeat (first | refine blk_drewN ?_ _ | refine blk_drew ?_ | refine blk_alloc ?_ _)); refine blk_put (cs := #[.int .i64 ((rd_T122 l0_3 x9_1).f0), .slice none 0 0]) ?_ 1 _ rfl; (with_reducible repeat (first | refine blk_drewN ?_ _ | refine blk_drew ?_ | refine blk_alloc ?_ _)); refine blk_put (cs := #[.int .i64 0, .slice none 0 0]) ?_ 0 _ rfl; (with_reducible repeat (first | refine blk_drewN ?_ _ | refine blk_drew ?_ | refine blk_alloc ?_ _)); exact BK421.out⟩
       have n4_ : Aside0 (Below w.heap.size w ((w11.setCell ⟨gb421, 0, none⟩ (.int .i64 ((rd_T122 l0_3 x9_1).f0))).setCell ⟨gb421, 1, none⟩ (.slice A420_1 ((rd_T122 l0_3 x9_1).f1).length c420_1))) := ⟨by repeat (first | (with_reducible first | exact HB.out | apply below_alloc | apply pw_below_drewN | apply below_drew1 | refine below_set ?_ GE418.out | refine below_set ?_ GE419.out | refine below_set ?_ GE421.out) | exact HB.out)⟩
       (try clear HO_3)
       (try clear BK418)
       (try clear BK419)
       (try clear BK421)
       (try clear HB)
       generalize ((w11.setCell ⟨gb421, 0, none⟩ (.int .i64 ((rd_T122 l0_3 x9_1).f0))).setCell ⟨gb421, 1, none⟩ (.slice A420_1 ((rd_T122 l0_3 x9_1).f1).length c420_1)) = w15 at n0_ n1_ n2_ n3_ n4_ ⊢
       have HO_3 := n0_
       have BK418 := n1_
       have BK419 := n2_
       have BK421 := n3_
       have HB := n4_
       clear n0_ n1_ n2_ n3_ n4_
       have n0_ := Aside0.mk (Kd.S_drew HO_3.out)
       have n1_ := Aside0.mk (blk_drew BK418.out)
       have n2_ := Aside0.mk (blk_drew BK419.out)
       have n3_ := Aside0.mk (blk_drew BK421.out)
       have n4_ := Aside0.mk (below_drew1 HB.out)
       clear HO_3
       clear BK418
       clear BK419
       clear BK421
       clear HB
       have HO_3 := n0_
       have BK418 := n1_
       have BK419 := n2_
       have BK421 := n3_
       have HB := n4_
       clear n0_ n1_ n2_ n3_ n4_
       refine start_ (n := 10) (S := fun w' => w'.cell? ⟨gb421, 0, none⟩ = some (.int .i64 ((rd_T122 l0_3 x9_1).f0)) ∧ w'.cell? ⟨gb421, 1, none⟩ = some (.slice A420_1 ((rd_T122 l0_3 x9_1).f1).length c420_1)) (ds := []) #[false, false, false, false, false, false, false, false, false, false] (by kernel_rfl) rfl rfl ⟨(blk_cell BK421.out 0).trans rfl, (blk_cell BK421.out 1).trans rfl⟩ (fun hHeld => ?_); refine with_tabW impl_cloneMeta.tab5 impl_cloneMeta.bits5 (fun HT_ HW_ => ?_)
       generalize w15.drew = w16 at HO_3 BK418 BK419 BK421 HB hHeld ⊢
       refine pure_ (i := 0) (N := some 13) (v := ?_) (a' := ?_) #[true, false, false, false, false, false, false, false, false, false] rfl rfl (any_of HT_.out (by kernel_rfl)) (fun _ _ _ h => h) (Or.inl ⟨by rfl, ?_⟩) ?_ ?_
       rotate_left
       ·intro w'
        go_simp
        with_reducible rfl
       rotate_left
       ·simp only [Act.put, List.setIfInBounds_toArray, List.set_cons_zero, List.set_cons_succ, i64_w, i32_w]
        rfl
       refine pure_ (i := 1) (N := some 14) (v := ?_) (a' := ?_) #[true, true, false, false, false, false, false, false, false, false] rfl rfl (any_of HT_.out (by kernel_rfl)) (fun _ _ _ h => h) (Or.inl ⟨by rfl, ?_⟩) ?_ ?_
       rotate_left
       ·intro w'
        go_simp
        with_reducible rfl
       rotate_left
       ·simp only [Act.put, List.setIfInBounds_toArray, List.set_cons_zero, List.set_cons_succ, i64_w, i32_w]
        rfl
       refine pure_ (i := 3) (N := some 16) (v := ?_) (a' := ?_) #[true, true, false, true, false, false, false, false, false, false] rfl rfl (any_of HT_.out (by kernel_rfl)) (fun _ _ _ h => h) (Or.inl ⟨by rfl, ?_⟩) ?_ ?_
       rotate_left
       ·intro w'
        go_simp
        with_reducible rfl
       rotate_left
       ·simp only [Act.put, List.setIfInBounds_toArray, List.set_cons_zero, List.set_cons_succ, i64_w, i32_w]
        rfl
       refine take_ (i := 2) (N := some 15) (v := ?_) (a' := ?_) #[true, true, true, true, false, false, false, false, false, false] rfl rfl (take_ofW HT_.out HW_.out (by kernel_rfl)) (fun _ _ _ h => h) (Or.inl ⟨by rfl, ?_⟩) hHeld ?_ ?_
       rotate_left
       ·rintro w' ⟨s0, s1⟩
        go_simp
        with_reducible rfl
       rotate_left
       ·simp only [Act.put, List.setIfInBounds_toArray, List.set_cons_zero, List.set_cons_succ, i64_w, i32_w]
        rfl
       refine take_ (i := 4) (N := some 17) (v := ?_) (a' := ?_) #[true, true, true, true, true, false, false, false, false, false] rfl rfl (take_ofW HT_.out HW_.out (by kernel_rfl)) (fun _ _ _ h => h) (Or.inl ⟨by rfl, ?_⟩) hHeld ?_ ?_
       rotate_left
       ·rintro w' ⟨s0, s1⟩
        go_simp
        with_reducible rfl
       rotate_left
       ·simp only [Act.put, List.setIfInBounds_toArray, List.set_cons_zero, List.set_cons_succ, i64_w, i32_w]
        rfl
       refine one_ (i := 5) (N := some 18) #[true, true, true, true, true, true, false, false, false, false] rfl rfl (one_of HT_.out (by kernel_rfl)) (by decide) (fun K hK => ?_)
       refine goes_ Try.func95 (by kernel_rfl) rfl #[.slice A420_1 ((rd_T122 l0_3 x9_1).f1).length c420_1] (by rfl) rfl rfl (by (try simp only [List.map_toArray, List.map_cons, List.map_nil]); first | done | rfl | (simp only [List.length_drop, List.length_take]; rfl)) ?_
       with_reducible refine (slices_Clone_int_int.calls _ _ ((rd_T122 l0_3 x9_1).f1) t422 _ ?side1 ?side2 A9.out).mono ?_
       (case side1 => repeat (first | exact (Kd.C_below HR420_1.out HB.out) | (with_reducible refine Kd.C_alloc ?_ _) | (with_reducible refine Kd.C_drewN ?_ _) | (with_reducible refine Kd.C_drew ?_)))
       (case side2 => exact HC420_1.out)
       rintro e w17 ⟨v423, rfl, ho0, hb⟩
       refine ⟨_, rfl, ?_⟩
       have n0_ := Aside0.mk (Kd.S_elder' (by (with_reducible repeat (first | apply Kd.S_alloc | apply Kd.S_drewN | apply Kd.S_drew)); exact HO_3.out) (Kd.R_base ho0) hb)
       have n1_ := Aside0.mk (Kd.R_lower ho0 (below_size (by repeat (first | (with_reducible first | exact HB.out | apply below_alloc | apply pw_below_drewN | apply below_drew1 | refine below_set ?_ GE418.out | refine below_set ?_ GE419.out | refine below_set ?_ GE421.out) | exact HB.out))))
       have n2_ := Aside0.mk (blk_below (g := gb418) (o := .cells #[.int .i64 a0_0, .int .i64 a0_1, .int .i64 a0_2, .slice (some ad420) l0_3.length c0_3] 53 (0, 0)) (by (with_reducible repeat (first | refine blk_drewN ?_ _ | refine blk_drew ?_ | refine blk_alloc ?_ _)); exact BK418.out) hb)
       have n3_ := Aside0.mk (blk_below (g := gb419) (o := .cells #[.int .i64 0, .int .i64 0, .int .i64 0, .slice none 0 0] 53 (0, 0)) (by (with_reducible repeat (first | refine blk_drewN ?_ _ | refine blk_drew ?_ | refine blk_alloc ?_ _)); exact BK419.out) hb)
       have n4_ := Aside0.mk (blk_below (g := gb421) (o := .cells #[.int .i64 ((rd_T122 l0_3 x9_1).f0), .slice A420_1 ((rd_T122 l0_3 x9_1).f1).length c420_1] 122 (0, 0)) (by (with_reducible repeat (first | refine blk_drewN ?_ _ | refine blk_drew ?_ | refine blk_alloc ?_ _)); exact BK421.out) hb)
       have n5_ := Aside0.mk (below_step (by repeat (first | (with_reducible first | exact HB.out | apply below_alloc | apply pw_below_drewN | apply below_drew1 | refine below_set ?_ GE418.out | refine below_set ?_ GE419.out | refine below_set ?_ GE421.out) | exact HB.out)) hb)
       clear HO_3
       clear BK418
       clear BK419
       clear BK421
       clear HB
       have HO_3 := n0_
       have HO424 := n1_
       have BK418 := n2_
       have BK419 := n3_
       have BK421 := n4_
       have HB := n5_
       clear n0_ n1_ n2_ n3_ n4_ n5_
       (try clear hb)
       (try clear hb2)
       (try clear hk)
       (try clear hi)
       (try clear ho0)
       obtain ⟨Ao18, co18, eo18⟩ := Kd.R_slice HO424.out
       (first | subst eo18 | (injection eo18 with f1_ f2_ f3_; have f4_ := f1_.symm; have f5_ := f3_.symm; clear f1_ f2_ f3_; subst f4_; subst f5_))
       refine hK.out _ _ ⟨(blk_cell BK421.out 0).trans rfl, (blk_cell BK421.out 1).trans rfl⟩ (fun hHeld => ?_)
       clear hK K
       refine norm_ (a' := ?_) ?_ ?_
       rotate_left
       ·show Act.put _ (some 18) _ = _
        simp only [Act.put, List.setIfInBounds_toArray, List.set_cons_zero, List.set_cons_succ, i64_w, i32_w]
        rfl
       refine pure_ (i := 6) (N := some 19) (v := ?_) (a' := ?_) #[true, true, true, true, true, true, true, false, false, false] rfl rfl (any_of HT_.out (by kernel_rfl)) (fun _ _ _ h => h) (Or.inl ⟨by rfl, ?_⟩) ?_ ?_
       rotate_left
       ·intro w'
        go_simp
        with_reducible rfl
       rotate_left
       ·simp only [Act.put, List.setIfInBounds_toArray, List.set_cons_zero, List.set_cons_succ, i64_w, i32_w]
        rfl
       refine one_ (i := 7) (N := some 20) #[true, true, true, true, true, true, true, true, false, false] rfl rfl (one_of HT_.out (by kernel_rfl)) (by decide) (fun K hK => ?_)
       refine value_ (w1 := ?_) (v := ?_) (by rfl) rfl ?_ ?_
       rotate_left 2
       ·go_simp
        constructor
        ·rfl
        ·rfl
       refine hK.out _ _ ⟨(blk_cell (blk_alloc BK421.out _) 0).trans rfl, (blk_cell (blk_alloc BK421.out _) 1).trans rfl⟩ (fun hHeld => ?_)
       clear hK K
       refine norm_ (a' := ?_) ?_ ?_
       rotate_left
       ·show Act.put _ (some 20) _ = _
        simp only [Act.put, List.setIfInBounds_toArray, List.set_cons_zero, List.set_cons_succ, i64_w, i32_w]
        rfl
       refine one_ (i := 8) (N := some 21) #[true, true, true, true, true, true, true, true, true, false] rfl rfl (one_of HT_.out (by kernel_rfl)) (by decide) (fun K hK => ?_)
       refine Kd.S_append_step k122 (w0 := w) w.heap.size (by rfl) (.tmp 13) (.tmp 20) 51 122 (.agg #[(.int .i64 0), (.slice none 0 0)]) 32 rfl Try.underlying51 info122 rfl (by decide) (by omega) u3 x3_1 (⟨(rd_T122 l0_3 x9_1).f0, t422⟩ : S122) [.int .i64 ((rd_T122 l0_3 x9_1).f0), .slice Ao18 t422.length co18] (fun k_ => k_ ≠ gb421) (fun k_ => some k_ = (.slice Ao18 t422.length co18 : Value).ownBlock) rfl rfl ?aP (fun k_ hk_ => ((Kd.R_mono (ok' := fun k_ => ((fun k_ => k_ ≠ gb421)) k_ ∧ some k_ ≠ (u3 : Value).ownBlock) (Kd.R_types (Kd.R_apart' (HO424.out) (Kd.S_typed HO_3.out) (by decide)) BK421.out (by decide)) (fun k_ hk => ⟨hk.2, hk.1.2⟩))).1 k_ hk_.symm) ?aF ?aO ?aB ?aS ?aL ?_
       (case aP => exact k122_mkM _ _ _ (⟨(rd_T122 l0_3 x9_1).f0, t422⟩ : S122) (Kd.R_mono (Kd.R_tight rfl (Kd.R_mono (ok' := fun k_ => ((fun k_ => k_ ≠ gb421)) k_ ∧ some k_ ≠ (u3 : Value).ownBlock) (Kd.R_types (Kd.R_apart' (HO424.out) (Kd.S_typed HO_3.out) (by decide)) BK421.out (by decide)) (fun k_ hk => ⟨hk.2, hk.1.2⟩))) (fun _ h_ => h_)))
       (case aB => exact (by repeat (first | (with_reducible first | exact HB.out | apply below_alloc | apply pw_below_drewN | apply below_drew1 | refine below_set ?_ GE418.out | refine below_set ?_ GE419.out | refine below_set ?_ GE421.out) | exact HB.out)))
       (case aF => exact (fun k_ hk => Kd.freshB (g := gb421) (o := .cells #[.int .i64 ((rd_T122 l0_3 x9_1).f0), .slice A420_1 ((rd_T122 l0_3 x9_1).f1).length c420_1] 122 (0, 0)) (by (with_reducible repeat (first | refine blk_drewN ?_ _ | refine blk_drew ?_ | refine blk_alloc ?_ _)); exact BK421.out) k_ hk))
       (case aO => exact (by (with_reducible repeat (first | apply Kd.S_alloc | apply Kd.S_drewN | apply Kd.S_drew)); exact Kd.S_mono HO_3.out (fun k_ hk => ⟨hk.1, fun e_ => hk.2 e_⟩)))
       (case aS => exact (below_size (by repeat (first | (with_reducible first | exact HB.out | apply below_alloc | apply pw_below_drewN | apply below_drew1 | refine below_set ?_ GE418.out | refine below_set ?_ GE419.out | refine below_set ?_ GE421.out) | exact HB.out))))
       (case aL => have := LMc10.out; omega)
       intro v426 w19 ho hb hg hat
       rw [← Ny425.out] at ho
       have n0_ := Aside0.mk (blk_grown (g := gb418) (o := .cells #[.int .i64 a0_0, .int .i64 a0_1, .int .i64 a0_2, .slice (some ad420) l0_3.length c0_3] 53 (0, 0)) (by (with_reducible repeat (first | refine blk_drewN ?_ _ | refine blk_drew ?_ | refine blk_alloc ?_ _)); exact BK418.out) hg (Kd.S_ne HO_3.out BK418.out (by decide)))
       have n1_ := Aside0.mk (blk_grown (g := gb419) (o := .cells #[.int .i64 0, .int .i64 0, .int .i64 0, .slice none 0 0] 53 (0, 0)) (by (with_reducible repeat (first | refine blk_drewN ?_ _ | refine blk_drew ?_ | refine blk_alloc ?_ _)); exact BK419.out) hg (Kd.S_ne HO_3.out BK419.out (by decide)))
       have n2_ := Aside0.mk (blk_grown (g := gb421) (o := .cells #[.int .i64 ((rd_T122 l0_3 x9_1).f0), .slice A420_1 ((rd_T122 l0_3 x9_1).f1).length c420_1] 122 (0, 0)) (by (with_reducible repeat (first | refine blk_drewN ?_ _ | refine blk_drew ?_ | refine blk_alloc ?_ _)); exact BK421.out) hg (Kd.S_away HO_3.out (fun _ hk => hk.1)))
       have n3_ := Aside0.mk (hb)
       have n4_ := Aside0.mk (ho)
       clear BK418
       clear BK419
       clear BK421
       clear HB
       clear HO_3
       clear HO424
       have BK418 := n0_
       have BK419 := n1_
       have BK421 := n2_
       have HB := n3_
       have HO427 := n4_
       clear n0_ n1_ n2_ n3_ n4_
       clear ho hb hg hat
       refine hK.out _ _ ⟨(blk_cell BK421.out 0).trans rfl, (blk_cell BK421.out 1).trans rfl⟩ (fun hHeld => ?_)
       clear hK K
       refine norm_ (a' := ?_) ?_ ?_
       rotate_left
       ·show Act.put _ (some 21) _ = _
        simp only [Act.put, List.setIfInBounds_toArray, List.set_cons_zero, List.set_cons_succ, i64_w, i32_w]
        rfl
       refine pure_ (i := 9) (N := some 3) (v := ?_) (a' := ?_) #[true, true, true, true, true, true, true, true, true, true] rfl rfl (any_of HT_.out (by kernel_rfl)) (fun _ _ _ h => h) (Or.inl ⟨by rfl, ?_⟩) ?_ ?_
       rotate_left
       ·intro w'
        go_simp
        with_reducible rfl
       rotate_left
       ·simp only [Act.put, List.setIfInBounds_toArray, List.set_cons_zero, List.set_cons_succ, i64_w, i32_w]
        rfl
       refine done_ (done_of HT_.out (by kernel_rfl)) ?_
       try go_wp2
       go_roundg k1
       case measure => have := HK1.out; omega
       case rel => exact ⟨(y425), (wrap64 (x9_1 + 1)), (by first | rfl | (simp; done) | (simp [*]; done)), H', ⟨by have := HK1.out; omega⟩, ⟨by (with_reducible repeat (first | apply Kd.S_alloc | apply Kd.S_drewN | apply Kd.S_drew)); exact Kd.S_mono HO427.out (fun _ hk => trivial)⟩, ⟨by (with_reducible repeat (first | refine blk_drewN ?_ _ | refine blk_drew ?_ | refine blk_alloc ?_ _)); exact BK418.out⟩, ⟨by (with_reducible repeat (first | refine blk_drewN ?_ _ | refine blk_drew ?_ | refine blk_alloc ?_ _)); exact BK419.out⟩, ⟨by repeat (first | (with_reducible first | exact HB.out | apply below_alloc | apply pw_below_drewN | apply below_drew1 | refine below_set ?_ GE418.out | refine below_set ?_ GE419.out | refine below_set ?_ GE421.out) | exact HB.out)⟩⟩
      ·rw [if_neg c10] at H
       exact absurd H (by simp)
     ·rw [if_neg c8] at H
      exact absurd H (by simp)
    ·rw [if_neg c7] at H
     exact absurd H (by simp)
   ·rw [if_neg c6] at H
    have c6b0 : decide (x9_1 < (l0_3.length : Int)) = false := decide_eq_false c6
    clear c6
    simp only [Option.some.injEq, Prod.mk.injEq] at H
    obtain ⟨rfl, rfl, rfl, rfl⟩ := H
    obtain ⟨Ao20, co20, eo20⟩ := Kd.S_slice HO_3.out
    subst eo20
    have hnb21 := NB418_419.out
    have hnc21 := NB419_418.out
    have hcz22_0 : wr.cell? ⟨gb418, 0, none⟩ = some (.int .i64 a0_0) := (blk_cell BK418.out 0).trans rfl
    have hcz22_1 : wr.cell? ⟨gb418, 1, none⟩ = some (.int .i64 a0_1) := (blk_cell BK418.out 1).trans rfl
    have hcz22_2 : wr.cell? ⟨gb418, 2, none⟩ = some (.int .i64 a0_2) := (blk_cell BK418.out 2).trans rfl
    have hcz22_3 : wr.cell? ⟨gb418, 3, none⟩ = some (.slice A0_3 l0_3.length c0_3) := (blk_cell BK418.out 3).trans rfl
    have hfz22_0 := blk_frozen BK418.out 0
    have hfz22_1 := blk_frozen BK418.out 1
    have hfz22_2 := blk_frozen BK418.out 2
    have hfz22_3 := blk_frozen BK418.out 3
    have hcz23_0 : wr.cell? ⟨gb419, 0, none⟩ = some (.int .i64 0) := (blk_cell BK419.out 0).trans rfl
    have hcz23_1 : wr.cell? ⟨gb419, 1, none⟩ = some (.int .i64 0) := (blk_cell BK419.out 1).trans rfl
    have hcz23_2 : wr.cell? ⟨gb419, 2, none⟩ = some (.int .i64 0) := (blk_cell BK419.out 2).trans rfl
    have hcz23_3 : wr.cell? ⟨gb419, 3, none⟩ = some (.slice none 0 0) := (blk_cell BK419.out 3).trans rfl
    have hfz23_0 := blk_frozen BK419.out 0
    have hfz23_1 := blk_frozen BK419.out 1
    have hfz23_2 := blk_frozen BK419.out 2
    have hfz23_3 := blk_frozen BK419.out 3
    go_wp2
    refine bodyPost_ret (results_cell_row rfl _ _ gb419 53 #[.int .i64 a0_0, .int .i64 a0_1, .int .i64 a0_2, .slice Ao20 x3_1.length co20] (0, 0) _ rfl (by (with_reducible repeat (first | refine blk_drewN ?_ _ | refine blk_drew ?_ | refine blk_alloc ?_ _)); refine blk_put (cs := #[.int .i64 a0_0, .int .i64 a0_1, .int .i64 a0_2, .slice none 0 0]) ?_ 3 _ rfl; (with_reducible repeat (first | refine blk_drewN ?_ _ | refine blk_drew ?_ | refine blk_alloc ?_ _)); refine blk_put (cs := #[.int .i64 a0_0, .int .i64 a0_1, .int .i64 0, .slice none 0 0]) ?_ 2 _ rfl; (with_reducible repeat (first | refine blk_drewN ?_ _ | refine blk_drew ?_ | refine blk_alloc ?_ _)); refine blk_put (cs := #[.int .i64 a0_0, .int .i64 0, .int .i64 0, .slice none 0 0]) ?_ 1 _ rfl; (with_reducible repeat (first | refine blk_drewN ?_ _ | refine blk_drew ?_ | refine blk_alloc ?_ _)); refine blk_put (cs := #[.int .i64 0, .int .i64 0, .int .i64 0, .slice none 0 0]) ?_ 0 _ rfl; (with_reducible repeat (first | refine blk_drewN ?_ _ | refine blk_drew ?_ | refine blk_alloc ?_ _)); refine blk_far ?_ NB419_418.out _; (with_reducible repeat (first | refine blk_drewN ?_ _ | refine blk_drew ?_ | refine blk_alloc ?_ _)); exact BK419.out) Try.underlying53 rfl (by kernel_rfl)) rfl ?_
    exact ⟨_, by first | rfl | (simp [errW_none, errW_some] <;> rfl) | (simp [*, errW_none, errW_some] <;> rfl), by (with_reducible repeat (first | apply Kd.S_alloc | apply Kd.S_drewN | apply Kd.S_drew)); exact Kd.S_mono (Kd.S_far (p := ⟨gb419, 3, none⟩) (Kd.S_far (p := ⟨gb419, 2, none⟩) (Kd.S_far (p := ⟨gb419, 1, none⟩) (Kd.S_far (p := ⟨gb419, 0, none⟩) (Kd.S_far (p := ⟨gb418, 3, none⟩) (Kd.S_types (Kd.S_types HO_3.out BK418.out (by decide)) BK419.out (by decide)) (fun _ hk => hk.1.2) (.slice Ao20 x3_1.length co20)) (fun _ hk => hk.2) (.int .i64 a0_0)) (fun _ hk => hk.2) (.int .i64 a0_1)) (fun _ hk => hk.2) (.int .i64 a0_2)) (fun _ hk => hk.2) (.slice Ao20 x3_1.length co20)) (fun _ hk => trivial), by repeat (first | (with_reducible first | exact HB.out | apply below_alloc | apply pw_below_drewN | apply below_drew1 | refine below_set ?_ GE418.out | refine below_set ?_ GE419.out) | exact HB.out)⟩
theorem cloneMeta_o (k : Nat) (x y : S53) {cs : List Value} (w : World) (h : k53.K w x cs) (hf : impl_cloneMeta.f k x.f0 x.f1 x.f2 x.f3 = some (y.f0, y.f1, y.f2, y.f3)) :
  Calls Try.prog 90 #[.agg cs.toArray] w fun e w' => ∃ ds : List Value, e = .returned (.agg ds.toArray) ∧ k53.M w' w.heap.size (Fr w w') y ds ∧ Below w.heap.size w w' := by
 obtain ⟨A3, c3, rfl, m3, r3⟩ := k53_open h
 refine (impl_cloneMeta.calls k x.f0 x.f1 x.f2 A3 c3 x.f3 y.f0 y.f1 y.f2 y.f3 w r3 m3 hf).mono ?_
 rintro e w' ⟨v3, rfl, R, hb⟩
 exact ⟨[.int .i64 y.f0, .int .i64 y.f1, .int .i64 y.f2, v3], rfl, k53_mkM _ _ _ y (Kd.S_mono (Kd.S_bound R) (fun k hk => ⟨hk.2.1, hk.2.2.1⟩)), hb⟩
theorem cloneDisk_o (l0 : List ByteArray) (l1 : List S135) (q0 : List ByteArray) (q1 : List S135) {cs : List Value} (w : World) (h : kDisk.K w (l0, l1) cs) (hf : impl_cloneDisk.f l0 l1 = some (q0, q1)) :
  Calls Try.prog 69 #[.agg cs.toArray] w fun e w' => ∃ ds : List Value, e = .returned (.agg ds.toArray) ∧ kDisk.M w' w.heap.size (Fr w w') (q0, q1) ds ∧ Below w.heap.size w w' := by
 obtain ⟨A0, c0, A1, c1, rfl, m0, r0, m1, r1⟩ := kDisk_open h
 refine (impl_cloneDisk.calls A0 c0 l0 A1 c1 l1 q0 q1 w r0 m0 r1 m1 hf).mono ?_
 rintro e w' ⟨v0, v1, rfl, R0, R1, hb⟩
 have T0 := Own.R_tightB rfl R0
 have T1 := Own.R_tightB rfl R1
 exact ⟨[v0, v1], rfl, kDisk_mkM T0.1 T1.1 T0.2.1 T1.2.1 (Own.types_ne T0.2.2 T1.2.2 (by decide)), hb⟩
def SmallM (x : S53) : Prop := x.f3.length ≤ 2000000 ∧ ∀ f ∈ x.f3, f.f1.length ≤ 2000000
theorem R_made0 {α : Type} (d : Kd α) (e base : Nat) (w : World) (ok : Nat → Prop) (hb : base ≤ w.heap.size) (hok : ok w.heap.size) : Kd.R d e (w.alloc (.cells #[] e)) base ok (.slice (some ⟨w.heap.size, 0, none⟩) 0 0) [] :=
 ⟨fun k hk => by simp [Value.ownBlock] at hk; rw [← hk]; exact hok, [], World.ownsRow_made w #[] 0 hb (by decide) (by simp), Reps.none _ _⟩
theorem S_madeL {α : Type} (d : Kd α) (e base : Nat) (w : World) (ok : Nat → Prop) (hb : base ≤ w.heap.size) (hok : ok w.heap.size) : Kd.S d e (w.alloc (.cells #[] e)) base ok (.slice (some ⟨w.heap.size, 0, none⟩) 0 0) [] := ⟨fun _ => 0, R_made0 _ e base w ok hb hok⟩
def l06Copy.T6 : Bool × List (List Nat × List Nat) := (true, [([], []), ([0], [0]), ([], []), ([2], [2]), ([], []), ([3, 4], [3, 4]), ([5], [5]), ([6], [6]), ([], []), ([], []), ([9], [9]), ([], []), ([10, 11], [10, 11]), ([12], [12]), ([13], [13]), ([8, 14], [8, 14]), ([7, 15], [7, 15]), ([16], [16]), ([1, 17, 15], [1, 17]), ([0, 1, 2, 3, 4, 5, 6, 7, 8, 9, 10, 11, 12, 13, 14, 15, 16, 17, 18], []), ([19, 18, 18, 0, 1, 2, 3, 4, 5, 6, 7, 8, 9, 10, 11, 12, 13, 14, 15, 16, 17, 18], [18, 19])])
def l06Copy.B6 : List Nat := [0, 1, 0, 4, 0, 28, 60, 124, 0, 0, 512, 0, 3584, 7680, 15872, 32512, 65532, 131068, 262143, 524287, 1048575]
theorem l06Copy.ok6_1 : regB (opsOf Try.f87 6) l06Copy.T6 l06Copy.B6 [20] [.p 0, .t 1, .p 2, .t 3, .p 4, .p 5, .p 6, .t 7, .p 9, .t 10, .p 11, .p 12, .p 13, .t 14, .e 8, .e 15, .p 16, .e 17, .e 18, .p 19, .l 20] = true := by kernel_rfl
theorem l06Copy_o (x y : S53) {cs : List Value} (w : World) (h : k53.K w x cs) (hf : y = x ∧ SmallM x) :
  Calls Try.prog 87 #[.agg cs.toArray] w fun e w' => ∃ ds : List Value, e = .returned (.agg ds.toArray) ∧ k53.M w' w.heap.size (Fr w w') y ds ∧ Below w.heap.size w w' := by
 obtain ⟨hyx, hx⟩ := hf
 have hxy := hyx.symm
 clear hyx
 subst hxy
 obtain ⟨AF, cF, rfl, mF, rF⟩ := k53_open h
 have KR := Aside0.mk rF
 have FL := Aside0.mk hx
 clear h mF rF hx
 have BA := Aside0.mk (show (((w.alloc (.cells [.int .i64 x.f0, .int .i64 x.f1, .int .i64 x.f2, .slice AF x.f3.length cF].toArray 53)).alloc (.cells [.int .i64 0, .int .i64 0, .int .i64 0, .slice none 0 0].toArray 53))).heap[w.heap.size]? = some (.cells ([.int .i64 x.f0, .int .i64 x.f1, .int .i64 x.f2, .slice AF x.f3.length cF] : List Value).toArray 53 (0, 0)) from blk_alloc (blk_new w (.cells [.int .i64 x.f0, .int .i64 x.f1, .int .i64 x.f2, .slice AF x.f3.length cF].toArray 53)) _)
 have BR := Aside0.mk (show (((w.alloc (.cells [.int .i64 x.f0, .int .i64 x.f1, .int .i64 x.f2, .slice AF x.f3.length cF].toArray 53)).alloc (.cells [.int .i64 0, .int .i64 0, .int .i64 0, .slice none 0 0].toArray 53))).heap[w.heap.size + 1]? = some (.cells ([.int .i64 0, .int .i64 0, .int .i64 0, .slice none 0 0] : List Value).toArray 53 (0, 0)) from (by have := blk_new (w.alloc (.cells [.int .i64 x.f0, .int .i64 x.f1, .int .i64 x.f2, .slice AF x.f3.length cF].toArray 53)) (.cells ([.int .i64 0, .int .i64 0, .int .i64 0, .slice none 0 0] : List Value).toArray 53); rwa [show ((w.alloc (.cells [.int .i64 x.f0, .int .i64 x.f1, .int .i64 x.f2, .slice AF x.f3.length cF].toArray 53))).heap.size = w.heap.size + 1 from by simp] at this))
 have HB := Aside0.mk (below_alloc (below_alloc (Below.refl w.heap.size w) (.cells [.int .i64 x.f0, .int .i64 x.f1, .int .i64 x.f2, .slice AF x.f3.length cF].toArray 53)) (.cells [.int .i64 0, .int .i64 0, .int .i64 0, .slice none 0 0].toArray 53))
 have HZ := Aside0.mk (show (((w.alloc (.cells [.int .i64 x.f0, .int .i64 x.f1, .int .i64 x.f2, .slice AF x.f3.length cF].toArray 53)).alloc (.cells [.int .i64 0, .int .i64 0, .int .i64 0, .slice none 0 0].toArray 53))).heap.size = w.heap.size + 1 + 1 from by simp)
 have BN := Aside0.mk (show (((w.alloc (.cells [.int .i64 x.f0, .int .i64 x.f1, .int .i64 x.f2, .slice AF x.f3.length cF].toArray 53)).alloc (.cells [.int .i64 0, .int .i64 0, .int .i64 0, .slice none 0 0].toArray 53)).alloc (.cells [.int .i64 0, .int .i64 0, .int .i64 0, .slice none 0 0].toArray 53)).heap[w.heap.size + 1 + 1]? = some (.cells ([.int .i64 0, .int .i64 0, .int .i64 0, .slice none 0 0] : List Value).toArray 53 (0, 0)) from (by have := blk_new ((w.alloc (.cells [.int .i64 x.f0, .int .i64 x.f1, .int .i64 x.f2, .slice AF x.f3.length cF].toArray 53)).alloc (.cells [.int .i64 0, .int .i64 0, .int .i64 0, .slice none 0 0].toArray 53)) (.cells ([.int .i64 0, .int .i64 0, .int .i64 0, .slice none 0 0] : List Value).toArray 53); rwa [HZ.out] at this))
 go_enter Try.func87, Try.ntmps87
 go_upto_region 2 with (first | ((with_reducible refine gate_dst (N := 5) rfl ?_); refine ev_loadpart rfl 53 _ rfl w.heap.size 0 [] [.int .i64 x.f0, .int .i64 x.f1, .int .i64 x.f2, .slice AF x.f3.length cF] [] _ rfl BA.out rfl rfl Try.underlying53 rfl (by kernel_rfl) ?_) | ((with_reducible refine gate_store (t := 53) (p := 3) rfl ?_); refine ev_storepart rfl 53 _ _ rfl rfl (w.heap.size + 1 + 1) 0 [.int .i64 x.f0, .int .i64 x.f1, .int .i64 x.f2, .slice AF x.f3.length cF] [] [.int .i64 0, .int .i64 0, .int .i64 0, .slice none 0 0] [] rfl rfl BN.out rfl rfl rfl (by kernel_rfl) (fun v hv => by simp only [List.mem_cons, List.not_mem_nil, or_false] at hv; rcases hv with rfl | rfl | rfl | rfl <;> rfl) ?_; intro W1 hp hn; have BO := Aside0.mk hn; have P1 := Aside0.mk hp; clear hp hn))
 have hb1 := P1.out.below ((w.alloc (.cells [.int .i64 x.f0, .int .i64 x.f1, .int .i64 x.f2, .slice AF x.f3.length cF].toArray 53)).alloc (.cells [.int .i64 0, .int .i64 0, .int .i64 0, .slice none 0 0].toArray 53)) (Nat.le_of_eq HZ.out) (below_alloc (Below.refl _ _) _)
 replace BA := Aside0.mk (blk_below BA.out hb1)
 replace BR := Aside0.mk (blk_below BR.out hb1)
 replace HB := Aside0.mk (below_step HB.out hb1)
 have HZ1 := Aside0.mk (show w.heap.size + 1 + 1 < W1.heap.size from blk_lt BO.out)
 clear hb1 P1 HZ BN
 go_wp2_with ((with_reducible refine gate_store (t := 51) (p := 7) rfl ?_); refine ev_storecell rfl 51 _ _ rfl rfl (w.heap.size + 1 + 1) 3 (.slice (some ⟨W1.heap.size, 0, none⟩) 0 0) (.slice AF x.f3.length cF) [.int .i64 x.f0, .int .i64 x.f1, .int .i64 x.f2] [] rfl rfl (blk_alloc BO.out _) rfl rfl (by kernel_rfl) rfl rfl ?_; intro W2 hp hn; have BO2 := Aside0.mk hn; have HO := Aside0.mk (putS (S_madeL k122 122 w.heap.size W1 (fun k => w.heap.size + 1 + 1 < k) (by have := HZ1.out; omega) HZ1.out) hp (fun k h e => by omega)); have BA2 := Aside0.mk (blk_else (blk_alloc BA.out _) hp (by omega)); have BR2 := Aside0.mk (blk_else (blk_alloc BR.out _) hp (by omega)); have HB2 := Aside0.mk (hp.below w (by omega) (below_alloc HB.out _)); have HZ2 := Aside0.mk (show w.heap.size + 1 + 1 < W2.heap.size from blk_lt hn); clear BA BR HB BO hp hn)
 go_loopg [4] (x.f3.length + 1) (fun kq v4 w' => ∃ (i : Nat) (v : Value), v4 = .int .i64 (i : Int) ∧ Aside0 (kq + i = x.f3.length + 1) ∧ Aside0 (i ≤ x.f3.length) ∧ Aside0 (Kd.S k122 122 w' w.heap.size (fun k => w.heap.size + 1 + 1 < k) v (x.f3.take i)) ∧ Aside0 (w'.heap[w.heap.size]? = some (.cells ([.int .i64 x.f0, .int .i64 x.f1, .int .i64 x.f2, .slice AF x.f3.length cF] : List Value).toArray 53 (0, 0))) ∧ Aside0 (w'.heap[w.heap.size + 1]? = some (.cells ([.int .i64 0, .int .i64 0, .int .i64 0, .slice none 0 0] : List Value).toArray 53 (0, 0))) ∧ Aside0 (w'.heap[w.heap.size + 1 + 1]? = some (.cells (([.int .i64 x.f0, .int .i64 x.f1, .int .i64 x.f2] : List Value) ++ ([v] ++ [])).toArray 53 (0, 0))) ∧ Aside0 (Below w.heap.size w w') ∧ Aside0 (w.heap.size + 1 + 1 < w'.heap.size))
 case atStart => exact ⟨0, _, rfl, ⟨by omega⟩, ⟨Nat.zero_le _⟩, HO, BA2, BR2, BO2, HB2, HZ2⟩
 case round =>
  clear BA2 BR2 BO2 HB2 HZ2 HO
  obtain ⟨i, v, rfl, HQ, HI, HO, BA, BR, BO, HB, HZ⟩ := hrel
  obtain ⟨xs, hxs⟩ : ∃ xs, xs = x.f3.take i := ⟨_, rfl⟩
  rw [← hxs] at HO
  have HX := Aside0.mk hxs
  clear hxs
  obtain ⟨Av, cv, rfl⟩ := Kd.S_slice HO.out
  have hp3 : wr.cell? ⟨w.heap.size, 3, none⟩ = some (.slice AF x.f3.length cF) := part_cell (pre := [.int .i64 x.f0, .int .i64 x.f1, .int .i64 x.f2]) (post := []) BA.out rfl rfl
  by_cases hlt : i < x.f3.length
  ·have c1 : decide ((i : Int) < (x.f3.length : Int)) = true := decide_eq_true (by omega)
   have c0 : decide ((0 : Int) ≤ (i : Int)) = true := decide_eq_true (by omega)
   cases gk with
   | zero => exact absurd HQ.out (by omega)
   | succ k1 =>
    obtain ⟨ad, A1, c1_, hA, z0, z1, hl4, hC4⟩ := at_T122 KR.out (i : Int) (by omega) (by omega)
    subst hA
    obtain ⟨el, hel⟩ : ∃ el, el = rd_T122 x.f3 (i : Int) := ⟨_, rfl⟩
    have hel2 : el = x.f3[i] := by rw [hel]; simp [rd_T122, List.getD_eq_getElem?_getD, List.getElem?_eq_getElem hlt]
    rw [← hel] at z0 z1 hl4 hC4
    simp only [Int.toNat_natCast] at z0 z1
    have Z0 := Aside0.mk z0
    have Z1 := Aside0.mk z1
    have KE := Aside0.mk hC4
    have HE := Aside0.mk hel2
    have EL := Aside0.mk (show el.f1.length ≤ 2000000 from FL.out.2 el (by rw [hel2]; exact List.getElem_mem hlt))
    have c2 : ((i : Int) < (x.f3.length : Int)) = True := eq_true (by omega)
    have c3 : ((0 : Int) ≤ (i : Int)) = True := eq_true (by omega)
    clear hel hel2 hl4 hC4 z0 z1
    have OKV := Aside0.mk (show ∀ k, (Value.slice Av xs.length cv).ownBlock = some k → w.heap.size + 1 + 1 < k from HO.out.choose_spec.1)
    have LV := Aside0.mk (Kd.S_lt HO.out)
    go_upto_region 6 with (fail)
    clear hp3
    replace BA := Aside0.mk (blk_below BA.out (Below.refl wr.heap.size wr).drew)
    replace BR := Aside0.mk (blk_below BR.out (Below.refl wr.heap.size wr).drew)
    replace BO := Aside0.mk (blk_below BO.out (Below.refl wr.heap.size wr).drew)
    replace HB := Aside0.mk (below_step HB.out (Below.refl wr.heap.size wr).drew)
    replace HO := Aside0.mk (Kd.S_below HO.out (Below.refl wr.heap.size wr).drew)
    replace HZ := Aside0.mk (Nat.lt_of_lt_of_le HZ.out (Below.refl wr.heap.size wr).drew.size)
    have LW := Aside0.mk (Below.refl wr.heap.size wr).drew.size
    refine seq_start l06Copy.ok6_1 (S := fun w' => w'.heap[w.heap.size]? = some (.cells ([.int .i64 x.f0, .int .i64 x.f1, .int .i64 x.f2, .slice (some ad) x.f3.length cF] : List Value).toArray 53 (0, 0)) ∧ w'.heap[w.heap.size + 1 + 1]? = some (.cells (([.int .i64 x.f0, .int .i64 x.f1, .int .i64 x.f2] : List Value) ++ (([.slice Av xs.length cv] : List Value) ++ [])).toArray 53 (0, 0)) ∧ w'.cell? (ad.add (i * 2)) = some (.int .i64 el.f0) ∧ w'.cell? ⟨(ad.add (i * 2)).block, (ad.add (i * 2)).off + 1, none⟩ = some (.slice A1 el.f1.length c1_)) (by kernel_rfl) (fun _ _ _ _ h => h) ⟨BA.out, BO.out, ((HB.out).cell (World.block_lt_of_cell? w _ Z0.out)).trans Z0.out, ((HB.out).cell (World.block_lt_of_cell? w _ Z1.out)).trans Z1.out⟩ (fun hHeld => ?_)
    generalize wr.drew = wd at BA BR BO HB HO HZ LW hHeld ⊢
    (refine seq_p (v := ?_) (a' := ?_) rfl rfl (Or.inl ⟨by rfl, ?_⟩) ?_ ?_; rotate_left; (· intro w'; go_simp; with_reducible rfl); rotate_left; (· show Act.put _ (some _) _ = _; simp only [Act.put, List.setIfInBounds_toArray, List.set_cons_zero, List.set_cons_succ, i64_w, i32_w]; try rfl))
    refine seq_loadcell (a' := ?a1_4) rfl rfl (by rfl) 51 _ rfl (w.heap.size + 1 + 1) 3 [.int .i64 x.f0, .int .i64 x.f1, .int .i64 x.f2] (.slice Av xs.length cv) [] _ rfl (fun w' hs => hs.2.1) (rfl) (rfl) Try.underlying51 rfl ?hp4 ?hk4
    case hp4 => (show Act.put _ (some _) _ = _; simp only [Act.put, List.setIfInBounds_toArray, List.set_cons_zero, List.set_cons_succ, i64_w, i32_w]; try rfl)
    (refine seq_p (v := ?_) (a' := ?_) rfl rfl (Or.inl ⟨by rfl, ?_⟩) ?_ ?_; rotate_left; (· intro w'; go_simp; with_reducible rfl); rotate_left; (· show Act.put _ (some _) _ = _; simp only [Act.put, List.setIfInBounds_toArray, List.set_cons_zero, List.set_cons_succ, i64_w, i32_w]; try rfl))
    refine seq_loadcell (a' := ?a1_5) rfl rfl (by rfl) 51 _ rfl w.heap.size 3 [.int .i64 x.f0, .int .i64 x.f1, .int .i64 x.f2] (.slice (some ad) x.f3.length cF) [] _ rfl (fun w' hs => hs.1) (rfl) (rfl) Try.underlying51 rfl ?hp5 ?hk5
    case hp5 => (show Act.put _ (some _) _ = _; simp only [Act.put, List.setIfInBounds_toArray, List.set_cons_zero, List.set_cons_succ, i64_w, i32_w]; try rfl)
    iterate 3 (refine seq_p (v := ?_) (a' := ?_) rfl rfl (Or.inl ⟨by rfl, ?_⟩) ?_ ?_; rotate_left; (· intro w'; go_simp; with_reducible rfl); rotate_left; (· show Act.put _ (some _) _ = _; simp only [Act.put, List.setIfInBounds_toArray, List.set_cons_zero, List.set_cons_succ, i64_w, i32_w]; try rfl))
    (refine seq_t (v := ?_) (a' := ?_) rfl rfl (Or.inl ⟨by rfl, ?_⟩) ?_ ?_; rotate_left; (· rintro w' ⟨s0, s1, s2, s3⟩; go_simp; with_reducible rfl); rotate_left; (· show Act.put _ (some _) _ = _; simp only [Act.put, List.setIfInBounds_toArray, List.set_cons_zero, List.set_cons_succ, i64_w, i32_w]; try rfl))
    (refine seq_p (v := ?_) (a' := ?_) rfl rfl (Or.inl ⟨by rfl, ?_⟩) ?_ ?_; rotate_left; (· intro w'; go_simp; with_reducible rfl); rotate_left; (· show Act.put _ (some _) _ = _; simp only [Act.put, List.setIfInBounds_toArray, List.set_cons_zero, List.set_cons_succ, i64_w, i32_w]; try rfl))
    refine seq_loadcell (a' := ?a1_6) rfl rfl (by rfl) 51 _ rfl w.heap.size 3 [.int .i64 x.f0, .int .i64 x.f1, .int .i64 x.f2] (.slice (some ad) x.f3.length cF) [] _ rfl (fun w' hs => hs.1) (rfl) (rfl) Try.underlying51 rfl ?hp6 ?hk6
    case hp6 => (show Act.put _ (some _) _ = _; simp only [Act.put, List.setIfInBounds_toArray, List.set_cons_zero, List.set_cons_succ, i64_w, i32_w]; try rfl)
    iterate 3 (refine seq_p (v := ?_) (a' := ?_) rfl rfl (Or.inl ⟨by rfl, ?_⟩) ?_ ?_; rotate_left; (· intro w'; go_simp; with_reducible rfl); rotate_left; (· show Act.put _ (some _) _ = _; simp only [Act.put, List.setIfInBounds_toArray, List.set_cons_zero, List.set_cons_succ, i64_w, i32_w]; try rfl))
    (refine seq_t (v := ?_) (a' := ?_) rfl rfl (Or.inl ⟨by rfl, ?_⟩) ?_ ?_; rotate_left; (· rintro w' ⟨s0, s1, s2, s3⟩; go_simp; with_reducible rfl); rotate_left; (· show Act.put _ (some _) _ = _; simp only [Act.put, List.setIfInBounds_toArray, List.set_cons_zero, List.set_cons_succ, i64_w, i32_w]; try rfl))
    refine seq_e rfl rfl (fun K hK => ?_)
    refine value_ (w1 := ?_) (v := ?_) (by rfl) rfl ?_ ?_
    rotate_left 2
    ·go_simp
     constructor
     ·rfl
     ·rfl
    refine hK.out _ _ ⟨(blk_alloc BA.out _), (blk_alloc BO.out _), ((below_alloc HB.out _).cell (World.block_lt_of_cell? w _ Z0.out)).trans Z0.out, ((below_alloc HB.out _).cell (World.block_lt_of_cell? w _ Z1.out)).trans Z1.out⟩ (fun hHeld => ?_)
    clear hK K
    refine seq_norm (a' := ?_) ?_ ?_; rotate_left; (· show Act.put _ (some 23) _ = _; simp only [Act.put, List.setIfInBounds_toArray, List.set_cons_zero, List.set_cons_succ, i64_w, i32_w]; try rfl)
    refine seq_e rfl rfl (fun K hK => ?_)
    refine Kd.R_append_rows_step (Kd.int .i64) (Rr := Kd.K (Kd.int .i64) (wd.alloc (.cells #[] 3))) (w0 := w) (W := wd.alloc (.cells #[] 3)) w.heap.size (by rfl) (.tmp 23) (.tmp 29) 26 3 (.int .i64 0) 8 rfl Try.underlying26 info3 rfl (by decide) (by decide) (.slice (some ⟨wd.heap.size, 0, none⟩) 0 0) [] el.f1 A1 el.f1.length c1_ (fun k => wd.heap.size ≤ k) (fun _ => False) rfl rfl ?aO ?aR (fun _ _ h => h) (fun _ h => h.elim) ?aF ?aB ?aS ?aL ?_
    (case aO => exact R_made0 (Kd.int .i64) 3 w.heap.size wd _ HB.out.size (Nat.le_refl _))
    (case aR => exact Kd.C_below KE.out (below_alloc HB.out _))
    (case aF => exact (fun k h => by simp at h; omega))
    (case aB => exact below_alloc HB.out _)
    (case aS => have := HB.out.size; simp; omega)
    (case aL => have := EL.out; simp only [List.length_nil]; omega)
    intro va wa ho hb hg hat
    rw [List.nil_append] at ho
    obtain ⟨Ai, ci, rfl⟩ := Kd.R_slice ho
    have RI := Aside0.mk ho
    have NW := Aside0.mk (show ∀ k, k < wd.heap.size → wa.heap[k]? = wd.heap[k]? from fun k hk => (hg.block k (by simp; omega) (fun e => by have e2 : some k = some wd.heap.size := e; injection e2 with e2; omega)).trans (Below.heap_alloc wd _ k hk))
    have SW := Aside0.mk (show wd.heap.size < wa.heap.size from by have := hg.size; simp at this; omega)
    replace BA := Aside0.mk ((NW.out _ (by have := HZ.out; omega)).trans BA.out)
    replace BR := Aside0.mk ((NW.out _ (by have := HZ.out; omega)).trans BR.out)
    replace BO := Aside0.mk ((NW.out _ HZ.out).trans BO.out)
    replace HB := Aside0.mk hb
    have HF := Aside0.mk (Kd.S_mono (Kd.S_move (Kd.S_bound HO.out) (fun k hk => NW.out k hk.2.2.1)) (ok' := fun k => w.heap.size + 1 + 1 < k ∧ ¬ (wd.heap.size ≤ k)) (fun k hk => ⟨hk.1, by have := hk.2.2.1; omega⟩))
    clear HO ho hb hg hat
    refine hK.out _ _ ⟨BA.out, BO.out, ((HB.out).cell (World.block_lt_of_cell? w _ Z0.out)).trans Z0.out, ((HB.out).cell (World.block_lt_of_cell? w _ Z1.out)).trans Z1.out⟩ (fun hHeld => ?_)
    clear hK K
    refine seq_norm (a' := ?_) ?_ ?_; rotate_left; (· show Act.put _ (some 30) _ = _; simp only [Act.put, List.setIfInBounds_toArray, List.set_cons_zero, List.set_cons_succ, i64_w, i32_w]; try rfl)
    (refine seq_p (v := ?_) (a' := ?_) rfl rfl (Or.inl ⟨by rfl, ?_⟩) ?_ ?_; rotate_left; (· intro w'; go_simp; with_reducible rfl); rotate_left; (· show Act.put _ (some _) _ = _; simp only [Act.put, List.setIfInBounds_toArray, List.set_cons_zero, List.set_cons_succ, i64_w, i32_w]; try rfl))
    refine seq_e rfl rfl (fun K hK => ?_)
    refine value_ (w1 := ?_) (v := ?_) (by rfl) rfl ?_ ?_
    rotate_left 2
    ·go_simp
     constructor
     ·rfl
     ·rfl
    refine hK.out _ _ ⟨(blk_alloc BA.out _), (blk_alloc BO.out _), ((below_alloc HB.out _).cell (World.block_lt_of_cell? w _ Z0.out)).trans Z0.out, ((below_alloc HB.out _).cell (World.block_lt_of_cell? w _ Z1.out)).trans Z1.out⟩ (fun hHeld => ?_)
    clear hK K
    refine seq_norm (a' := ?_) ?_ ?_; rotate_left; (· show Act.put _ (some 32) _ = _; simp only [Act.put, List.setIfInBounds_toArray, List.set_cons_zero, List.set_cons_succ, i64_w, i32_w]; try rfl)
    refine seq_e rfl rfl (fun K hK => ?_)
    refine Kd.S_append_step k122 (w0 := w) (W := wa) w.heap.size (by rfl) (.tmp 16) (.tmp 32) 51 122 (.agg #[.int .i64 0, .slice none 0 0]) 32 rfl Try.underlying51 info122 rfl (by decide) (by omega) (.slice Av xs.length cv) xs el [.int .i64 el.f0, .slice Ai el.f1.length ci] (fun k => w.heap.size + 1 + 1 < k) (fun k => wd.heap.size ≤ k) rfl rfl ?bM ?bP ?bF HF.out HB.out ?bS ?bL ?_
    (case bM => exact k122_mkM _ _ _ el RI.out)
    (case bP => exact (fun k h => ⟨by have := HZ.out; omega, fun e => by have := LV.out k e.symm; have := LW.out; omega⟩))
    (case bF => exact (fun k h => by have := HZ.out; have := SW.out; omega))
    (case bS => exact HB.out.size)
    (case bL => have := FL.out.1; have h2 := List.length_take_le i x.f3; rw [← HX.out] at h2; omega)
    intro vb wb ho hb hg hat
    have BA_ := Aside0.mk (blk_grown BA.out hg (fun e => by have h2 := OKV.out _ e.symm; omega))
    have BR_ := Aside0.mk (blk_grown BR.out hg (fun e => by have h2 := OKV.out _ e.symm; omega))
    have BO_ := Aside0.mk (blk_grown BO.out hg (fun e => by have h2 := OKV.out _ e.symm; omega))
    have HO := Aside0.mk ho
    have HB_ := Aside0.mk hb
    obtain ⟨Ab, cb, rfl⟩ := Kd.S_slice ho
    have NL := Aside0.mk (show (xs ++ [el]).length = xs.length + 1 from by simp)
    clear BA BR BO HB ho hb hg hat
    refine hK.out _ _ ⟨BA_.out, BO_.out, ((HB_.out).cell (World.block_lt_of_cell? w _ Z0.out)).trans Z0.out, ((HB_.out).cell (World.block_lt_of_cell? w _ Z1.out)).trans Z1.out⟩ (fun hHeld => ?_)
    clear hK K
    refine seq_norm (a' := ?_) ?_ ?_; rotate_left; (· show Act.put _ (some 33) _ = _; simp only [Act.put, List.setIfInBounds_toArray, List.set_cons_zero, List.set_cons_succ, i64_w, i32_w]; try rfl)
    (refine seq_p (v := ?_) (a' := ?_) rfl rfl (Or.inl ⟨by rfl, ?_⟩) ?_ ?_; rotate_left; (· intro w'; go_simp; with_reducible rfl); rotate_left; (· show Act.put _ (some _) _ = _; simp only [Act.put, List.setIfInBounds_toArray, List.set_cons_zero, List.set_cons_succ, i64_w, i32_w]; try rfl))
    obtain ⟨nn, hnn⟩ : ∃ m, m = (xs ++ [el]).length := ⟨_, rfl⟩
    simp only [← hnn] at HO ⊢
    refine seq_storecell rfl rfl (by rfl) 51 _ _ rfl (w.heap.size + 1 + 1) 3 (.slice Ab nn cb) (.slice Av xs.length cv) [.int .i64 x.f0, .int .i64 x.f1, .int .i64 x.f2] [] rfl rfl BO_.out (by rfl) rfl (by kernel_rfl) rfl rfl (fun W hp hn => ?_)
    have OKB := HO.out.choose_spec.1
    have HZ_ := blk_lt BO_.out
    have B1 := Aside0.mk (blk_else BA_.out hp (by omega))
    have B2 := Aside0.mk (blk_else BR_.out hp (by omega))
    have B3 := Aside0.mk hn
    have H1 := Aside0.mk (hp.below w (by omega) HB_.out)
    have H2 := Aside0.mk (putS HO.out hp (fun k hk h => by omega))
    have H3 := Aside0.mk (show w.heap.size + 1 + 1 < W.heap.size from blk_lt hn)
    clear BA_ BR_ BO_ HB_ HO hp hn OKB
    refine seq_done ?_
    clear hHeld
    go_wp2
    go_roundg k1
    case measure => omega
    case rel => exact ⟨i + 1, _, by rw [show wrap64 ((i : Int) + 1) = ((i + 1 : Nat) : Int) by unfold wrap64; have := FL.out.1; omega], ⟨by have := HQ.out; omega⟩, ⟨by omega⟩, ⟨by rw [List.take_succ_eq_append_getElem hlt, ← HE.out, ← HX.out]; exact H2.out⟩, B1, B2, B3, H1, H3⟩
  ·have c1 : decide ((i : Int) < (x.f3.length : Int)) = false := decide_eq_false (by omega)
   have hi : i = x.f3.length := by have := HI.out; omega
   have hx := HX.out
   rw [hi, List.take_length] at hx
   subst hx
   clear HX
   go_wp2_with (first | ((with_reducible refine gate_dst (N := 35) rfl ?_); refine ev_loadpart rfl 53 _ rfl (w.heap.size + 1 + 1) 0 [] [.int .i64 x.f0, .int .i64 x.f1, .int .i64 x.f2, .slice Av x.f3.length cv] [] _ rfl BO.out rfl rfl Try.underlying53 rfl (by kernel_rfl) ?_) | ((with_reducible refine gate_store (t := 53) (p := 2) rfl ?_); refine ev_storepart rfl 53 _ _ rfl rfl (w.heap.size + 1) 0 [.int .i64 x.f0, .int .i64 x.f1, .int .i64 x.f2, .slice Av x.f3.length cv] [] [.int .i64 0, .int .i64 0, .int .i64 0, .slice none 0 0] [] rfl rfl BR.out rfl rfl rfl (by kernel_rfl) (fun v hv => by simp only [List.mem_cons, List.not_mem_nil, or_false] at hv; rcases hv with rfl | rfl | rfl | rfl <;> rfl) ?_; intro W3 hp hn; have BR_ := Aside0.mk hn; have HP := Aside0.mk hp; clear BR hp hn))
   have hz := HZ.out
   have hb := HP.out.below w (by omega) HB.out
   refine bodyPost_ret (oresults_c rfl _ _ (w.heap.size + 1) 53 _ _ _ rfl BR_.out Try.underlying53 rfl (by kernel_rfl)) rfl ?_
   have hS := putS HO.out HP.out (fun k hk h => by omega)
   exact ⟨[.int .i64 x.f0, .int .i64 x.f1, .int .i64 x.f2] ++ [.slice Av x.f3.length cv], rfl, k53_mkM _ _ _ x (Kd.S_mono (Kd.S_bound hS) (fun k hk => ⟨hk.2.1, hk.2.2.1⟩)), hb⟩
end Go.Proofs.Ytonhdiemjgdcnaa.PFnExactGivePage
