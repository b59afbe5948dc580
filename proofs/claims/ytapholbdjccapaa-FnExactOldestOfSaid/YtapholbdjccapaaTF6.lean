import Derived.Test.YtapholbdjccapaaTF5
set_option maxHeartbeats 64000000
set_option maxRecDepth 100000
set_option linter.unusedVariables false
set_option linter.unusedSimpArgs false
namespace Go.Proofs.Ytapholbdjccapaa.PFnExactTreeOk
open Go.RowKit Go.Proofs.YtapholbdjccapaaW.PrintWords Go.Proofs.YtapholbdjccapaaW.PrintLast Go.Proofs.YtapholbdjccapaaW.PrintMore
attribute [local go_sem] max2_int min2_int max_two min_two max_three min_three max_four min_four
theorem oR_high {α : Type} {d : Kd α} {e base M : Nat} {W : World} {ok : Nat → Prop} {v : Value} {xs : List α} (h : Kd.R d e W base ok v xs) (hb : M ≤ base) : Kd.R d e W base (fun k => M ≤ k) v xs := Kd.R_mono (Kd.R_bound h) (fun k hk => Nat.le_trans hb hk.2.1)
theorem oR_set {α : Type} {d : Kd α} {e base M g o : Nat} {W : World} {v u : Value} {xs : List α} (h : Kd.R d e W base (fun k => M ≤ k) v xs) (hg : g < M) : Kd.R d e (W.setCell ⟨g, o, none⟩ u) base (fun k => M ≤ k) v xs := Kd.R_far h (fun k hk => by show k ≠ g; omega) u
theorem puts_far {g h : Nat} {t : TypeId} {cs : Array Value} (hn : h ≠ g) : ∀ (vs : List Value) (W : World) (i : Nat), W.heap[h]? = some (.cells cs t (0, 0)) → (puts W g i vs).heap[h]? = some (.cells cs t (0, 0))
 | [], W, i, hh => hh
 | v :: vs, W, i, hh => puts_far hn vs _ _ (blk_far hh (p := ⟨g, i, none⟩) hn v)
theorem puts_R {α : Type} {d : Kd α} {e base M g : Nat} {v : Value} {xs : List α} (hg : g < M) : ∀ (vs : List Value) (W : World) (i : Nat), Kd.R d e W base (fun k => M ≤ k) v xs → Kd.R d e (puts W g i vs) base (fun k => M ≤ k) v xs
 | [], W, i, h => h
 | u :: vs, W, i, h => puts_R hg vs _ _ (oR_set h hg)
theorem puts_below {w : World} {g : Nat} (hg : w.heap.size ≤ g) : ∀ (vs : List Value) (W : World) (i : Nat), Below w.heap.size w W → Below w.heap.size w (puts W g i vs)
 | [], W, i, h => h
 | u :: vs, W, i, h => puts_below hg vs _ _ (below_set h hg)
def putsA (cs : List Value) (i : Nat) : List Value → List Value
 | [] => cs
 | v :: vs => putsA (cs.set i v) (i + 1) vs
theorem puts_blk {g : Nat} {t : TypeId} : ∀ (vs : List Value) (cs : List Value) (W : World) (i : Nat) (cs' : List Value), W.heap[g]? = some (.cells cs.toArray t (0, 0)) → putsA cs i vs = cs' → (puts W g i vs).heap[g]? = some (.cells cs'.toArray t (0, 0))
 | [], cs, W, i, cs', hh, e => by subst e; exact hh
 | v :: vs, cs, W, i, cs', hh, e => puts_blk vs (cs.set i v) _ _ _ (blk_put hh i v (by simp)) e
theorem putsA_row : ∀ (vs cs pre : List Value), cs.length = vs.length → putsA (pre ++ cs) pre.length vs = pre ++ vs
 | [], cs, pre, h => by
  have : cs = [] := by simpa using h
  subst this; rfl
 | v :: vs, [], pre, h => by simp at h
 | v :: vs, c :: cs, pre, h => by
  have e : (pre ++ c :: cs).set pre.length v = (pre ++ [v]) ++ cs := by simp
  have ih := putsA_row vs cs (pre ++ [v]) (by simpa using h)
  show putsA ((pre ++ c :: cs).set pre.length v) (pre.length + 1) vs = _
  rw [e]
  simpa using ih
def Seen {α : Type} (d : Kd α) (W : World) (v : Value) (xs : List α) : Prop := ∃ A c, v = .slice A xs.length c ∧ xs.length ≤ c ∧ d.C W A xs.length xs
theorem oresults_c {P : Program} {fn : Func} {p : Tmp} {ty : TypeId} (h : fn.results = #[.cell p ty]) (tmps : Array Value) (w : World) (g : Nat) (t : TypeId) (cs : Array Value) (fr : Nat × Nat) (d : TypeDesc)
  (hp : tmps.getD p undef = .pointer (some ⟨g, 0, none⟩)) (hg : w.heap[g]? = some (.cells cs t fr))
  (hu : P.underlying ty = some d) (hd : (match d with | .struct _ | .array _ _ => true | _ => false) = true) (hi : (P.info? ty).map (·.size) = some cs.size) :
  (results fn tmps).run P w = .ok (.agg cs) w := by
 have hp' : tmps[p]?.getD undef = .pointer (some ⟨g, 0, none⟩) := by simpa using hp
 simp [results, h, hp', asAddr, run_loadVar_row w g t ty cs fr d hg hu hd hi]
def ToPost (a2 : Int) (a3 : Int) (a4 : Int) (a7 : Int) (a8 : Int) (a9 : Int) (a13 : Int) (a17 : Int) (a18 : Bool) (a19 : Bool) (m0 : List ByteArray) (m1 : List (S189)) (m5 : List (S109)) (m6 : List (S99)) (m10 : List (S109)) (m11 : List ByteArray) (m12 : List (S189)) (m14 : List Int) (m15 : List Int) (m16 : List Int) (w : World) (e : Ending) (w' : World) : Prop := ∃ v0 v1 v5 v6 v10 v11 v12 v14 v15 v16 : Value, e = .returned (.agg #[v0, v1, .int .i64 a2, .int .i64 a3, .int .i64 a4, v5, v6, .int .i64 a7, .int .i64 a8, .int .i64 a9, v10, v11, v12, .int .i64 a13, v14, v15, v16, .int .i64 a17, .bool a18, .bool a19]) ∧ Seen Kd.string w' v0 m0 ∧ Seen k189 w' v1 m1 ∧ Seen k109 w' v5 m5 ∧ Seen k99 w' v6 m6 ∧ Seen k109 w' v10 m10 ∧ Seen Kd.string w' v11 m11 ∧ Seen k189 w' v12 m12 ∧ Seen (Kd.int .i64) w' v14 m14 ∧ Seen (Kd.int .i64) w' v15 m15 ∧ Seen (Kd.int .i64) w' v16 m16 ∧ Below w.heap.size w w'
theorem toStore_reads (k : Nat) (A0 : Option Addr) (c0 : Nat) (l0 : List ByteArray) (A1 : Option Addr) (c1 : Nat) (l1 : List (S187)) (a2 : Int) (a3 : Int) (a4 : Int) (A5 : Option Addr) (c5 : Nat) (l5 : List (S198)) (A6 : Option Addr) (c6 : Nat) (l6 : List (S162)) (a7 : Int) (a8 : Int) (a9 : Int) (A10 : Option Addr) (c10 : Nat) (l10 : List (S198)) (A11 : Option Addr) (c11 : Nat) (l11 : List ByteArray) (A12 : Option Addr) (c12 : Nat) (l12 : List (S187)) (a13 : Int) (A14 : Option Addr) (c14 : Nat) (l14 : List Int) (A15 : Option Addr) (c15 : Nat) (l15 : List Int) (A16 : Option Addr) (c16 : Nat) (l16 : List Int) (a17 : Int) (a18 : Bool) (a19 : Bool) (m0 : List ByteArray) (m1 : List (S189)) (m5 : List (S109)) (m6 : List (S99)) (m10 : List (S109)) (m11 : List ByteArray) (m12 : List (S189)) (m14 : List Int) (m15 : List Int) (m16 : List Int) (w : World) (hr0 : Kd.C Kd.string w A0 l0.length l0) (hc0 : l0.length ≤ c0) (hr1 : Kd.C k187 w A1 l1.length l1) (hc1 : l1.length ≤ c1) (hr5 : Kd.C k198 w A5 l5.length l5) (hc5 : l5.length ≤ c5) (hr6 : Kd.C k162 w A6 l6.length l6) (hc6 : l6.length ≤ c6) (hr10 : Kd.C k198 w A10 l10.length l10) (hc10 : l10.length ≤ c10) (hr11 : Kd.C Kd.string w A11 l11.length l11) (hc11 : l11.length ≤ c11) (hr12 : Kd.C k187 w A12 l12.length l12) (hc12 : l12.length ≤ c12) (hr14 : Kd.C (Kd.int .i64) w A14 l14.length l14) (hc14 : l14.length ≤ c14) (hr15 : Kd.C (Kd.int .i64) w A15 l15.length l15) (hc15 : l15.length ≤ c15) (hr16 : Kd.C (Kd.int .i64) w A16 l16.length l16) (hc16 : l16.length ≤ c16) (h1 : laws_toDisk.f k l0 l1 = some (m0, m1)) (h2 : laws_toMeta.f k a2 a3 a4 l5 = some (a2, a3, a4, m5)) (h3 : laws_toReaderS.f k l6 = some m6) (h4 : laws_toTxn.f k a7 a8 a9 l10 l11 l12 a13 l14 l15 l16 a17 = some (a7, a8, a9, m10, m11, m12, a13, m14, m15, m16, a17)) :
  Calls Try.prog 13 #[.agg #[.slice A0 l0.length c0, .slice A1 l1.length c1, .int .i64 a2, .int .i64 a3, .int .i64 a4, .slice A5 l5.length c5, .slice A6 l6.length c6, .int .i64 a7, .int .i64 a8, .int .i64 a9, .slice A10 l10.length c10, .slice A11 l11.length c11, .slice A12 l12.length c12, .int .i64 a13, .slice A14 l14.length c14, .slice A15 l15.length c15, .slice A16 l16.length c16, .int .i64 a17, .bool a18, .bool a19]] w (ToPost a2 a3 a4 a7 a8 a9 a13 a17 a18 a19 m0 m1 m5 m6 m10 m11 m12 m14 m15 m16 w) := by
 have HR0 := Aside0.mk hr0
 have HC0 := Aside0.mk hc0
 have HR1 := Aside0.mk hr1
 have HC1 := Aside0.mk hc1
 have HR5 := Aside0.mk hr5
 have HC5 := Aside0.mk hc5
 have HR6 := Aside0.mk hr6
 have HC6 := Aside0.mk hc6
 have HR10 := Aside0.mk hr10
 have HC10 := Aside0.mk hc10
 have HR11 := Aside0.mk hr11
 have HC11 := Aside0.mk hc11
 have HR12 := Aside0.mk hr12
 have HC12 := Aside0.mk hc12
 have HR14 := Aside0.mk hr14
 have HC14 := Aside0.mk hc14
 have HR15 := Aside0.mk hr15
 have HC15 := Aside0.mk hc15
 have HR16 := Aside0.mk hr16
 have HC16 := Aside0.mk hc16
 clear hr0 hc0 hr1 hc1 hr5 hc5 hr6 hc6 hr10 hc10 hr11 hc11 hr12 hc12 hr14 hc14 hr15 hc15 hr16 hc16
 have K1 := Aside0.mk h1
 have K2 := Aside0.mk h2
 have K3 := Aside0.mk h3
 have K4 := Aside0.mk h4
 clear h1 h2 h3 h4
 have BA0 := Aside0.mk (show (((w.alloc (.cells #[.slice A0 l0.length c0, .slice A1 l1.length c1, .int .i64 a2, .int .i64 a3, .int .i64 a4, .slice A5 l5.length c5, .slice A6 l6.length c6, .int .i64 a7, .int .i64 a8, .int .i64 a9, .slice A10 l10.length c10, .slice A11 l11.length c11, .slice A12 l12.length c12, .int .i64 a13, .slice A14 l14.length c14, .slice A15 l15.length c15, .slice A16 l16.length c16, .int .i64 a17, .bool a18, .bool a19] 36)).alloc (.cells #[.slice none 0 0, .slice none 0 0, .int .i64 0, .int .i64 0, .int .i64 0, .slice none 0 0, .slice none 0 0, .int .i64 0, .int .i64 0, .int .i64 0, .slice none 0 0, .slice none 0 0, .slice none 0 0, .int .i64 0, .slice none 0 0, .slice none 0 0, .slice none 0 0, .int .i64 0, .bool false, .bool false] 51)).alloc (.cells #[.slice none 0 0, .slice none 0 0, .int .i64 0, .int .i64 0, .int .i64 0, .slice none 0 0, .slice none 0 0, .int .i64 0, .int .i64 0, .int .i64 0, .slice none 0 0, .slice none 0 0, .slice none 0 0, .int .i64 0, .slice none 0 0, .slice none 0 0, .slice none 0 0, .int .i64 0, .bool false, .bool false] 51)).heap[w.heap.size]? = some (.cells (#[.slice A0 l0.length c0, .slice A1 l1.length c1, .int .i64 a2, .int .i64 a3, .int .i64 a4, .slice A5 l5.length c5, .slice A6 l6.length c6, .int .i64 a7, .int .i64 a8, .int .i64 a9, .slice A10 l10.length c10, .slice A11 l11.length c11, .slice A12 l12.length c12, .int .i64 a13, .slice A14 l14.length c14, .slice A15 l15.length c15, .slice A16 l16.length c16, .int .i64 a17, .bool a18, .bool a19] : Array Value) 36 (0, 0)) from blk_alloc (blk_alloc (blk_new _ _) _) _)
 have BR0 := Aside0.mk (show (((w.alloc (.cells #[.slice A0 l0.length c0, .slice A1 l1.length c1, .int .i64 a2, .int .i64 a3, .int .i64 a4, .slice A5 l5.length c5, .slice A6 l6.length c6, .int .i64 a7, .int .i64 a8, .int .i64 a9, .slice A10 l10.length c10, .slice A11 l11.length c11, .slice A12 l12.length c12, .int .i64 a13, .slice A14 l14.length c14, .slice A15 l15.length c15, .slice A16 l16.length c16, .int .i64 a17, .bool a18, .bool a19] 36)).alloc (.cells #[.slice none 0 0, .slice none 0 0, .int .i64 0, .int .i64 0, .int .i64 0, .slice none 0 0, .slice none 0 0, .int .i64 0, .int .i64 0, .int .i64 0, .slice none 0 0, .slice none 0 0, .slice none 0 0, .int .i64 0, .slice none 0 0, .slice none 0 0, .slice none 0 0, .int .i64 0, .bool false, .bool false] 51)).alloc (.cells #[.slice none 0 0, .slice none 0 0, .int .i64 0, .int .i64 0, .int .i64 0, .slice none 0 0, .slice none 0 0, .int .i64 0, .int .i64 0, .int .i64 0, .slice none 0 0, .slice none 0 0, .slice none 0 0, .int .i64 0, .slice none 0 0, .slice none 0 0, .slice none 0 0, .int .i64 0, .bool false, .bool false] 51)).heap[w.heap.size + 1]? = some (.cells (#[.slice none 0 0, .slice none 0 0, .int .i64 0, .int .i64 0, .int .i64 0, .slice none 0 0, .slice none 0 0, .int .i64 0, .int .i64 0, .int .i64 0, .slice none 0 0, .slice none 0 0, .slice none 0 0, .int .i64 0, .slice none 0 0, .slice none 0 0, .slice none 0 0, .int .i64 0, .bool false, .bool false] : Array Value) 51 (0, 0)) from blk_alloc (by have z := blk_new (w.alloc (.cells #[.slice A0 l0.length c0, .slice A1 l1.length c1, .int .i64 a2, .int .i64 a3, .int .i64 a4, .slice A5 l5.length c5, .slice A6 l6.length c6, .int .i64 a7, .int .i64 a8, .int .i64 a9, .slice A10 l10.length c10, .slice A11 l11.length c11, .slice A12 l12.length c12, .int .i64 a13, .slice A14 l14.length c14, .slice A15 l15.length c15, .slice A16 l16.length c16, .int .i64 a17, .bool a18, .bool a19] 36)) (.cells #[.slice none 0 0, .slice none 0 0, .int .i64 0, .int .i64 0, .int .i64 0, .slice none 0 0, .slice none 0 0, .int .i64 0, .int .i64 0, .int .i64 0, .slice none 0 0, .slice none 0 0, .slice none 0 0, .int .i64 0, .slice none 0 0, .slice none 0 0, .slice none 0 0, .int .i64 0, .bool false, .bool false] 51); simpa using z) _)
 have BO0 := Aside0.mk (show (((w.alloc (.cells #[.slice A0 l0.length c0, .slice A1 l1.length c1, .int .i64 a2, .int .i64 a3, .int .i64 a4, .slice A5 l5.length c5, .slice A6 l6.length c6, .int .i64 a7, .int .i64 a8, .int .i64 a9, .slice A10 l10.length c10, .slice A11 l11.length c11, .slice A12 l12.length c12, .int .i64 a13, .slice A14 l14.length c14, .slice A15 l15.length c15, .slice A16 l16.length c16, .int .i64 a17, .bool a18, .bool a19] 36)).alloc (.cells #[.slice none 0 0, .slice none 0 0, .int .i64 0, .int .i64 0, .int .i64 0, .slice none 0 0, .slice none 0 0, .int .i64 0, .int .i64 0, .int .i64 0, .slice none 0 0, .slice none 0 0, .slice none 0 0, .int .i64 0, .slice none 0 0, .slice none 0 0, .slice none 0 0, .int .i64 0, .bool false, .bool false] 51)).alloc (.cells #[.slice none 0 0, .slice none 0 0, .int .i64 0, .int .i64 0, .int .i64 0, .slice none 0 0, .slice none 0 0, .int .i64 0, .int .i64 0, .int .i64 0, .slice none 0 0, .slice none 0 0, .slice none 0 0, .int .i64 0, .slice none 0 0, .slice none 0 0, .slice none 0 0, .int .i64 0, .bool false, .bool false] 51)).heap[w.heap.size + 1 + 1]? = some (.cells (#[.slice none 0 0, .slice none 0 0, .int .i64 0, .int .i64 0, .int .i64 0, .slice none 0 0, .slice none 0 0, .int .i64 0, .int .i64 0, .int .i64 0, .slice none 0 0, .slice none 0 0, .slice none 0 0, .int .i64 0, .slice none 0 0, .slice none 0 0, .slice none 0 0, .int .i64 0, .bool false, .bool false] : Array Value) 51 (0, 0)) from (by have z := blk_new ((w.alloc (.cells #[.slice A0 l0.length c0, .slice A1 l1.length c1, .int .i64 a2, .int .i64 a3, .int .i64 a4, .slice A5 l5.length c5, .slice A6 l6.length c6, .int .i64 a7, .int .i64 a8, .int .i64 a9, .slice A10 l10.length c10, .slice A11 l11.length c11, .slice A12 l12.length c12, .int .i64 a13, .slice A14 l14.length c14, .slice A15 l15.length c15, .slice A16 l16.length c16, .int .i64 a17, .bool a18, .bool a19] 36)).alloc (.cells #[.slice none 0 0, .slice none 0 0, .int .i64 0, .int .i64 0, .int .i64 0, .slice none 0 0, .slice none 0 0, .int .i64 0, .int .i64 0, .int .i64 0, .slice none 0 0, .slice none 0 0, .slice none 0 0, .int .i64 0, .slice none 0 0, .slice none 0 0, .slice none 0 0, .int .i64 0, .bool false, .bool false] 51)) (.cells #[.slice none 0 0, .slice none 0 0, .int .i64 0, .int .i64 0, .int .i64 0, .slice none 0 0, .slice none 0 0, .int .i64 0, .int .i64 0, .int .i64 0, .slice none 0 0, .slice none 0 0, .slice none 0 0, .int .i64 0, .slice none 0 0, .slice none 0 0, .slice none 0 0, .int .i64 0, .bool false, .bool false] 51); simpa using z))
 go_enter Try.func13, Try.ntmps13
 go_wp2_with fail
 ((with_reducible refine (laws_toDisk.calls k A0 c0 l0 A1 c1 l1 _ _ _ (Kd.C_below HR0.out (below_alloc (below_alloc (below_alloc (Below.refl _ _) _) _) _)) HC0.out (Kd.C_below HR1.out (below_alloc (below_alloc (below_alloc (Below.refl _ _) _) _) _)) HC1.out K1.out).mono ?_); rintro e w1 ⟨v0, v1, rfl, R0, R1, hb1⟩)
 have BA := Aside0.mk (blk_below BA0.out hb1)
 have BR := Aside0.mk (blk_below BR0.out hb1)
 have BO := Aside0.mk (blk_below BO0.out hb1)
 clear BA0 BR0 BO0
 obtain ⟨B0, d0, e0⟩ := Kd.R_slice R0
 subst e0
 obtain ⟨B1, d1, e1⟩ := Kd.R_slice R1
 subst e1
 have hz1 : w.heap.size + 1 + 1 < w1.heap.size := blk_lt BO.out
 have T0 := Aside0.mk (oR_high (M := w.heap.size + 1 + 1 + 1) R0 (by simp))
 have T1 := Aside0.mk (oR_high (M := w.heap.size + 1 + 1 + 1) R1 (by simp))
 have HB1 := Aside0.mk (below_step (below_alloc (below_alloc (below_alloc (Below.refl w.heap.size w) _) _) _) hb1)
 clear R0 R1 hb1
 have co1_0 : w1.cell? ⟨w.heap.size + 1 + 1, 0, none⟩ = some (.slice none 0 0) := (blk_cell BO.out 0).trans rfl
 have fo1_0 := blk_frozen BO.out 0
 have co1_1 : w1.cell? ⟨w.heap.size + 1 + 1, 1, none⟩ = some (.slice none 0 0) := (blk_cell BO.out 1).trans rfl
 have fo1_1 := blk_frozen BO.out 1
 have ca1_2 : w1.cell? ⟨w.heap.size, 2, none⟩ = some (.int .i64 a2) := (blk_cell BA.out 2).trans rfl
 have ca1_3 : w1.cell? ⟨w.heap.size, 3, none⟩ = some (.int .i64 a3) := (blk_cell BA.out 3).trans rfl
 have ca1_4 : w1.cell? ⟨w.heap.size, 4, none⟩ = some (.int .i64 a4) := (blk_cell BA.out 4).trans rfl
 have ca1_5 : w1.cell? ⟨w.heap.size, 5, none⟩ = some (.slice A5 l5.length c5) := (blk_cell BA.out 5).trans rfl
 go_wp2_with fail
 clear co1_0 fo1_0 co1_1 fo1_1 ca1_2 ca1_3 ca1_4 ca1_5
 ((with_reducible refine (laws_toMeta.calls k a2 a3 a4 A5 c5 l5 _ _ _ _ _ (Kd.C_below HR5.out (below_set (below_set HB1.out (by show w.heap.size ≤ w.heap.size + 1 + 1; omega)) (by show w.heap.size ≤ w.heap.size + 1 + 1; omega))) HC5.out K2.out).mono ?_); rintro e w2 ⟨v5, rfl, R5, hb2⟩)
 have BA_ := Aside0.mk (blk_below (blk_far (blk_far BA.out (by show w.heap.size ≠ w.heap.size + 1 + 1; omega) _) (by show w.heap.size ≠ w.heap.size + 1 + 1; omega) _) hb2)
 have BR_ := Aside0.mk (blk_below (blk_far (blk_far BR.out (by show w.heap.size + 1 ≠ w.heap.size + 1 + 1; omega) _) (by show w.heap.size + 1 ≠ w.heap.size + 1 + 1; omega) _) hb2)
 have BO_ := Aside0.mk (blk_below (blk_put (cs' := #[.slice B0 m0.length d0, .slice B1 m1.length d1, .int .i64 0, .int .i64 0, .int .i64 0, .slice none 0 0, .slice none 0 0, .int .i64 0, .int .i64 0, .int .i64 0, .slice none 0 0, .slice none 0 0, .slice none 0 0, .int .i64 0, .slice none 0 0, .slice none 0 0, .slice none 0 0, .int .i64 0, .bool false, .bool false]) (blk_put (cs' := #[.slice B0 m0.length d0, .slice none 0 0, .int .i64 0, .int .i64 0, .int .i64 0, .slice none 0 0, .slice none 0 0, .int .i64 0, .int .i64 0, .int .i64 0, .slice none 0 0, .slice none 0 0, .slice none 0 0, .int .i64 0, .slice none 0 0, .slice none 0 0, .slice none 0 0, .int .i64 0, .bool false, .bool false]) BO.out 0 (.slice B0 m0.length d0) rfl) 1 (.slice B1 m1.length d1) rfl) hb2)
 clear BA BR BO
 have BA := BA_
 have BR := BR_
 have BO := BO_
 clear BA_ BR_ BO_
 obtain ⟨B5, d5, e5⟩ := Kd.R_slice (Kd.S_R R5)
 subst e5
 have hz2 : w.heap.size + 1 + 1 < w2.heap.size := blk_lt BO.out
 have U0 := Aside0.mk (Kd.R_below (oR_set (oR_set T0.out (Nat.lt_succ_self _)) (Nat.lt_succ_self _)) hb2)
 clear T0
 have T0 := U0
 clear U0
 have U1 := Aside0.mk (Kd.R_below (oR_set (oR_set T1.out (Nat.lt_succ_self _)) (Nat.lt_succ_self _)) hb2)
 clear T1
 have T1 := U1
 clear U1
 have T5 := Aside0.mk (oR_high (M := w.heap.size + 1 + 1 + 1) (Kd.S_R R5) (by simp; omega))
 have HB2 := Aside0.mk (below_step (below_set (below_set HB1.out (by show w.heap.size ≤ w.heap.size + 1 + 1; omega)) (by show w.heap.size ≤ w.heap.size + 1 + 1; omega)) hb2)
 clear R5 hb2
 clear hz1
 have co2_2 : w2.cell? ⟨w.heap.size + 1 + 1, 2, none⟩ = some (.int .i64 0) := (blk_cell BO.out 2).trans rfl
 have fo2_2 := blk_frozen BO.out 2
 have co2_3 : w2.cell? ⟨w.heap.size + 1 + 1, 3, none⟩ = some (.int .i64 0) := (blk_cell BO.out 3).trans rfl
 have fo2_3 := blk_frozen BO.out 3
 have co2_4 : w2.cell? ⟨w.heap.size + 1 + 1, 4, none⟩ = some (.int .i64 0) := (blk_cell BO.out 4).trans rfl
 have fo2_4 := blk_frozen BO.out 4
 have co2_5 : w2.cell? ⟨w.heap.size + 1 + 1, 5, none⟩ = some (.slice none 0 0) := (blk_cell BO.out 5).trans rfl
 have fo2_5 := blk_frozen BO.out 5
 have ca2_6 : w2.cell? ⟨w.heap.size, 6, none⟩ = some (.slice A6 l6.length c6) := (blk_cell BA.out 6).trans rfl
 go_wp2_with fail
 clear co2_2 fo2_2 co2_3 fo2_3 co2_4 fo2_4 co2_5 fo2_5 ca2_6
 ((with_reducible refine (laws_toReaderS.calls k A6 c6 l6 _ _ (Kd.C_below HR6.out (below_set (below_set (below_set (below_set HB2.out (by show w.heap.size ≤ w.heap.size + 1 + 1; omega)) (by show w.heap.size ≤ w.heap.size + 1 + 1; omega)) (by show w.heap.size ≤ w.heap.size + 1 + 1; omega)) (by show w.heap.size ≤ w.heap.size + 1 + 1; omega))) HC6.out K3.out).mono ?_); rintro e w3 ⟨v6, rfl, R6, hb3⟩)
 have BA_ := Aside0.mk (blk_below (blk_far (blk_far (blk_far (blk_far BA.out (by show w.heap.size ≠ w.heap.size + 1 + 1; omega) _) (by show w.heap.size ≠ w.heap.size + 1 + 1; omega) _) (by show w.heap.size ≠ w.heap.size + 1 + 1; omega) _) (by show w.heap.size ≠ w.heap.size + 1 + 1; omega) _) hb3)
 have BR_ := Aside0.mk (blk_below (blk_far (blk_far (blk_far (blk_far BR.out (by show w.heap.size + 1 ≠ w.heap.size + 1 + 1; omega) _) (by show w.heap.size + 1 ≠ w.heap.size + 1 + 1; omega) _) (by show w.heap.size + 1 ≠ w.heap.size + 1 + 1; omega) _) (by show w.heap.size + 1 ≠ w.heap.size + 1 + 1; omega) _) hb3)
 have BO_ := Aside0.mk (blk_below (blk_put (cs' := #[.slice B0 m0.length d0, .slice B1 m1.length d1, .int .i64 a2, .int .i64 a3, .int .i64 a4, .slice B5 m5.length d5, .slice none 0 0, .int .i64 0, .int .i64 0, .int .i64 0, .slice none 0 0, .slice none 0 0, .slice none 0 0, .int .i64 0, .slice none 0 0, .slice none 0 0, .slice none 0 0, .int .i64 0, .bool false, .bool false]) (blk_put (cs' := #[.slice B0 m0.length d0, .slice B1 m1.length d1, .int .i64 a2, .int .i64 a3, .int .i64 a4, .slice none 0 0, .slice none 0 0, .int .i64 0, .int .i64 0, .int .i64 0, .slice none 0 0, .slice none 0 0, .slice none 0 0, .int .i64 0, .slice none 0 0, .slice none 0 0, .slice none 0 0, .int .i64 0, .bool false, .bool false]) (blk_put (cs' := #[.slice B0 m0.length d0, .slice B1 m1.length d1, .int .i64 a2, .int .i64 a3, .int .i64 0, .slice none 0 0, .slice none 0 0, .int .i64 0, .int .i64 0, .int .i64 0, .slice none 0 0, .slice none 0 0, .slice none 0 0, .int .i64 0, .slice none 0 0, .slice none 0 0, .slice none 0 0, .int .i64 0, .bool false, .bool false]) (blk_put (cs' := #[.slice B0 m0.length d0, .slice B1 m1.length d1, .int .i64 a2, .int .i64 0, .int .i64 0, .slice none 0 0, .slice none 0 0, .int .i64 0, .int .i64 0, .int .i64 0, .slice none 0 0, .slice none 0 0, .slice none 0 0, .int .i64 0, .slice none 0 0, .slice none 0 0, .slice none 0 0, .int .i64 0, .bool false, .bool false]) BO.out 2 (.int .i64 a2) rfl) 3 (.int .i64 a3) rfl) 4 (.int .i64 a4) rfl) 5 (.slice B5 m5.length d5) rfl) hb3)
 clear BA BR BO
 have BA := BA_
 have BR := BR_
 have BO := BO_
 clear BA_ BR_ BO_
 obtain ⟨B6, d6, e6⟩ := Kd.R_slice R6
 subst e6
 have hz3 : w.heap.size + 1 + 1 < w3.heap.size := blk_lt BO.out
 have U0 := Aside0.mk (Kd.R_below (oR_set (oR_set (oR_set (oR_set T0.out (Nat.lt_succ_self _)) (Nat.lt_succ_self _)) (Nat.lt_succ_self _)) (Nat.lt_succ_self _)) hb3)
 clear T0
 have T0 := U0
 clear U0
 have U1 := Aside0.mk (Kd.R_below (oR_set (oR_set (oR_set (oR_set T1.out (Nat.lt_succ_self _)) (Nat.lt_succ_self _)) (Nat.lt_succ_self _)) (Nat.lt_succ_self _)) hb3)
 clear T1
 have T1 := U1
 clear U1
 have U5 := Aside0.mk (Kd.R_below (oR_set (oR_set (oR_set (oR_set T5.out (Nat.lt_succ_self _)) (Nat.lt_succ_self _)) (Nat.lt_succ_self _)) (Nat.lt_succ_self _)) hb3)
 clear T5
 have T5 := U5
 clear U5
 have T6 := Aside0.mk (oR_high (M := w.heap.size + 1 + 1 + 1) R6 (by simp; omega))
 have HB3 := Aside0.mk (below_step (below_set (below_set (below_set (below_set HB2.out (by show w.heap.size ≤ w.heap.size + 1 + 1; omega)) (by show w.heap.size ≤ w.heap.size + 1 + 1; omega)) (by show w.heap.size ≤ w.heap.size + 1 + 1; omega)) (by show w.heap.size ≤ w.heap.size + 1 + 1; omega)) hb3)
 clear R6 hb3
 clear hz2
 have co3_6 : w3.cell? ⟨w.heap.size + 1 + 1, 6, none⟩ = some (.slice none 0 0) := (blk_cell BO.out 6).trans rfl
 have fo3_6 := blk_frozen BO.out 6
 have ca3_7 : w3.cell? ⟨w.heap.size, 7, none⟩ = some (.int .i64 a7) := (blk_cell BA.out 7).trans rfl
 have ca3_8 : w3.cell? ⟨w.heap.size, 8, none⟩ = some (.int .i64 a8) := (blk_cell BA.out 8).trans rfl
 have ca3_9 : w3.cell? ⟨w.heap.size, 9, none⟩ = some (.int .i64 a9) := (blk_cell BA.out 9).trans rfl
 have ca3_10 : w3.cell? ⟨w.heap.size, 10, none⟩ = some (.slice A10 l10.length c10) := (blk_cell BA.out 10).trans rfl
 have ca3_11 : w3.cell? ⟨w.heap.size, 11, none⟩ = some (.slice A11 l11.length c11) := (blk_cell BA.out 11).trans rfl
 have ca3_12 : w3.cell? ⟨w.heap.size, 12, none⟩ = some (.slice A12 l12.length c12) := (blk_cell BA.out 12).trans rfl
 have ca3_13 : w3.cell? ⟨w.heap.size, 13, none⟩ = some (.int .i64 a13) := (blk_cell BA.out 13).trans rfl
 have ca3_14 : w3.cell? ⟨w.heap.size, 14, none⟩ = some (.slice A14 l14.length c14) := (blk_cell BA.out 14).trans rfl
 have ca3_15 : w3.cell? ⟨w.heap.size, 15, none⟩ = some (.slice A15 l15.length c15) := (blk_cell BA.out 15).trans rfl
 have ca3_16 : w3.cell? ⟨w.heap.size, 16, none⟩ = some (.slice A16 l16.length c16) := (blk_cell BA.out 16).trans rfl
 have ca3_17 : w3.cell? ⟨w.heap.size, 17, none⟩ = some (.int .i64 a17) := (blk_cell BA.out 17).trans rfl
 go_wp2_with fail
 clear co3_6 fo3_6 ca3_7 ca3_8 ca3_9 ca3_10 ca3_11 ca3_12 ca3_13 ca3_14 ca3_15 ca3_16 ca3_17
 ((with_reducible refine (laws_toTxn.calls k a7 a8 a9 A10 c10 l10 A11 c11 l11 A12 c12 l12 a13 A14 c14 l14 A15 c15 l15 A16 c16 l16 a17 _ _ _ _ _ _ _ _ _ _ _ _ (Kd.C_below HR10.out (below_set HB3.out (by show w.heap.size ≤ w.heap.size + 1 + 1; omega))) HC10.out (Kd.C_below HR11.out (below_set HB3.out (by show w.heap.size ≤ w.heap.size + 1 + 1; omega))) HC11.out (Kd.C_below HR12.out (below_set HB3.out (by show w.heap.size ≤ w.heap.size + 1 + 1; omega))) HC12.out (Kd.C_below HR14.out (below_set HB3.out (by show w.heap.size ≤ w.heap.size + 1 + 1; omega))) HC14.out (Kd.C_below HR15.out (below_set HB3.out (by show w.heap.size ≤ w.heap.size + 1 + 1; omega))) HC15.out (Kd.C_below HR16.out (below_set HB3.out (by show w.heap.size ≤ w.heap.size + 1 + 1; omega))) HC16.out K4.out).mono ?_); rintro e w4 ⟨v10, v11, v12, v14, v15, v16, rfl, R10, R11, R12, R14, R15, R16, hb4⟩)
 have BA_ := Aside0.mk (blk_below (blk_far BA.out (by show w.heap.size ≠ w.heap.size + 1 + 1; omega) _) hb4)
 have BR_ := Aside0.mk (blk_below (blk_far BR.out (by show w.heap.size + 1 ≠ w.heap.size + 1 + 1; omega) _) hb4)
 have BO_ := Aside0.mk (blk_below (blk_put (cs' := #[.slice B0 m0.length d0, .slice B1 m1.length d1, .int .i64 a2, .int .i64 a3, .int .i64 a4, .slice B5 m5.length d5, .slice B6 m6.length d6, .int .i64 0, .int .i64 0, .int .i64 0, .slice none 0 0, .slice none 0 0, .slice none 0 0, .int .i64 0, .slice none 0 0, .slice none 0 0, .slice none 0 0, .int .i64 0, .bool false, .bool false]) BO.out 6 (.slice B6 m6.length d6) rfl) hb4)
 clear BA BR BO
 have BA := BA_
 have BR := BR_
 have BO := BO_
 clear BA_ BR_ BO_
 obtain ⟨B10, d10, e10⟩ := Kd.R_slice (Kd.S_R R10)
 subst e10
 obtain ⟨B11, d11, e11⟩ := Kd.R_slice R11
 subst e11
 obtain ⟨B12, d12, e12⟩ := Kd.R_slice R12
 subst e12
 obtain ⟨B14, d14, e14⟩ := Kd.R_slice R14
 subst e14
 obtain ⟨B15, d15, e15⟩ := Kd.R_slice R15
 subst e15
 obtain ⟨B16, d16, e16⟩ := Kd.R_slice R16
 subst e16
 have hz4 : w.heap.size + 1 + 1 < w4.heap.size := blk_lt BO.out
 have U0 := Aside0.mk (Kd.R_below (oR_set T0.out (Nat.lt_succ_self _)) hb4)
 clear T0
 have T0 := U0
 clear U0
 have U1 := Aside0.mk (Kd.R_below (oR_set T1.out (Nat.lt_succ_self _)) hb4)
 clear T1
 have T1 := U1
 clear U1
 have U5 := Aside0.mk (Kd.R_below (oR_set T5.out (Nat.lt_succ_self _)) hb4)
 clear T5
 have T5 := U5
 clear U5
 have U6 := Aside0.mk (Kd.R_below (oR_set T6.out (Nat.lt_succ_self _)) hb4)
 clear T6
 have T6 := U6
 clear U6
 have T10 := Aside0.mk (oR_high (M := w.heap.size + 1 + 1 + 1) (Kd.S_R R10) (by simp; omega))
 have T11 := Aside0.mk (oR_high (M := w.heap.size + 1 + 1 + 1) R11 (by simp; omega))
 have T12 := Aside0.mk (oR_high (M := w.heap.size + 1 + 1 + 1) R12 (by simp; omega))
 have T14 := Aside0.mk (oR_high (M := w.heap.size + 1 + 1 + 1) R14 (by simp; omega))
 have T15 := Aside0.mk (oR_high (M := w.heap.size + 1 + 1 + 1) R15 (by simp; omega))
 have T16 := Aside0.mk (oR_high (M := w.heap.size + 1 + 1 + 1) R16 (by simp; omega))
 have HB4 := Aside0.mk (below_step (below_set HB3.out (by show w.heap.size ≤ w.heap.size + 1 + 1; omega)) hb4)
 clear R10 R11 R12 R14 R15 R16 hb4
 clear hz3
 have co4_0 : w4.cell? ⟨w.heap.size + 1 + 1, 0, none⟩ = some (.slice B0 m0.length d0) := (blk_cell BO.out 0).trans rfl
 have fo4_0 := blk_frozen BO.out 0
 have co4_1 : w4.cell? ⟨w.heap.size + 1 + 1, 1, none⟩ = some (.slice B1 m1.length d1) := (blk_cell BO.out 1).trans rfl
 have fo4_1 := blk_frozen BO.out 1
 have co4_2 : w4.cell? ⟨w.heap.size + 1 + 1, 2, none⟩ = some (.int .i64 a2) := (blk_cell BO.out 2).trans rfl
 have fo4_2 := blk_frozen BO.out 2
 have co4_3 : w4.cell? ⟨w.heap.size + 1 + 1, 3, none⟩ = some (.int .i64 a3) := (blk_cell BO.out 3).trans rfl
 have fo4_3 := blk_frozen BO.out 3
 have co4_4 : w4.cell? ⟨w.heap.size + 1 + 1, 4, none⟩ = some (.int .i64 a4) := (blk_cell BO.out 4).trans rfl
 have fo4_4 := blk_frozen BO.out 4
 have co4_5 : w4.cell? ⟨w.heap.size + 1 + 1, 5, none⟩ = some (.slice B5 m5.length d5) := (blk_cell BO.out 5).trans rfl
 have fo4_5 := blk_frozen BO.out 5
 have co4_6 : w4.cell? ⟨w.heap.size + 1 + 1, 6, none⟩ = some (.slice B6 m6.length d6) := (blk_cell BO.out 6).trans rfl
 have fo4_6 := blk_frozen BO.out 6
 have co4_7 : w4.cell? ⟨w.heap.size + 1 + 1, 7, none⟩ = some (.int .i64 0) := (blk_cell BO.out 7).trans rfl
 have fo4_7 := blk_frozen BO.out 7
 have co4_8 : w4.cell? ⟨w.heap.size + 1 + 1, 8, none⟩ = some (.int .i64 0) := (blk_cell BO.out 8).trans rfl
 have fo4_8 := blk_frozen BO.out 8
 have co4_9 : w4.cell? ⟨w.heap.size + 1 + 1, 9, none⟩ = some (.int .i64 0) := (blk_cell BO.out 9).trans rfl
 have fo4_9 := blk_frozen BO.out 9
 have co4_10 : w4.cell? ⟨w.heap.size + 1 + 1, 10, none⟩ = some (.slice none 0 0) := (blk_cell BO.out 10).trans rfl
 have fo4_10 := blk_frozen BO.out 10
 have co4_11 : w4.cell? ⟨w.heap.size + 1 + 1, 11, none⟩ = some (.slice none 0 0) := (blk_cell BO.out 11).trans rfl
 have fo4_11 := blk_frozen BO.out 11
 have co4_12 : w4.cell? ⟨w.heap.size + 1 + 1, 12, none⟩ = some (.slice none 0 0) := (blk_cell BO.out 12).trans rfl
 have fo4_12 := blk_frozen BO.out 12
 have co4_13 : w4.cell? ⟨w.heap.size + 1 + 1, 13, none⟩ = some (.int .i64 0) := (blk_cell BO.out 13).trans rfl
 have fo4_13 := blk_frozen BO.out 13
 have co4_14 : w4.cell? ⟨w.heap.size + 1 + 1, 14, none⟩ = some (.slice none 0 0) := (blk_cell BO.out 14).trans rfl
 have fo4_14 := blk_frozen BO.out 14
 have co4_15 : w4.cell? ⟨w.heap.size + 1 + 1, 15, none⟩ = some (.slice none 0 0) := (blk_cell BO.out 15).trans rfl
 have fo4_15 := blk_frozen BO.out 15
 have co4_16 : w4.cell? ⟨w.heap.size + 1 + 1, 16, none⟩ = some (.slice none 0 0) := (blk_cell BO.out 16).trans rfl
 have fo4_16 := blk_frozen BO.out 16
 have co4_17 : w4.cell? ⟨w.heap.size + 1 + 1, 17, none⟩ = some (.int .i64 0) := (blk_cell BO.out 17).trans rfl
 have fo4_17 := blk_frozen BO.out 17
 have co4_18 : w4.cell? ⟨w.heap.size + 1 + 1, 18, none⟩ = some (.bool false) := (blk_cell BO.out 18).trans rfl
 have fo4_18 := blk_frozen BO.out 18
 have co4_19 : w4.cell? ⟨w.heap.size + 1 + 1, 19, none⟩ = some (.bool false) := (blk_cell BO.out 19).trans rfl
 have fo4_19 := blk_frozen BO.out 19
 have ca4_18 : w4.cell? ⟨w.heap.size, 18, none⟩ = some (.bool a18) := (blk_cell BA.out 18).trans rfl
 have ca4_19 : w4.cell? ⟨w.heap.size, 19, none⟩ = some (.bool a19) := (blk_cell BA.out 19).trans rfl
 have cr4_0 : w4.cell? ⟨w.heap.size + 1, 0, none⟩ = some (.slice none 0 0) := (blk_cell BR.out 0).trans rfl
 have fr4_0 := blk_frozen BR.out 0
 have cr4_1 : w4.cell? ⟨w.heap.size + 1, 1, none⟩ = some (.slice none 0 0) := (blk_cell BR.out 1).trans rfl
 have fr4_1 := blk_frozen BR.out 1
 have cr4_2 : w4.cell? ⟨w.heap.size + 1, 2, none⟩ = some (.int .i64 0) := (blk_cell BR.out 2).trans rfl
 have fr4_2 := blk_frozen BR.out 2
 have cr4_3 : w4.cell? ⟨w.heap.size + 1, 3, none⟩ = some (.int .i64 0) := (blk_cell BR.out 3).trans rfl
 have fr4_3 := blk_frozen BR.out 3
 have cr4_4 : w4.cell? ⟨w.heap.size + 1, 4, none⟩ = some (.int .i64 0) := (blk_cell BR.out 4).trans rfl
 have fr4_4 := blk_frozen BR.out 4
 have cr4_5 : w4.cell? ⟨w.heap.size + 1, 5, none⟩ = some (.slice none 0 0) := (blk_cell BR.out 5).trans rfl
 have fr4_5 := blk_frozen BR.out 5
 have cr4_6 : w4.cell? ⟨w.heap.size + 1, 6, none⟩ = some (.slice none 0 0) := (blk_cell BR.out 6).trans rfl
 have fr4_6 := blk_frozen BR.out 6
 have cr4_7 : w4.cell? ⟨w.heap.size + 1, 7, none⟩ = some (.int .i64 0) := (blk_cell BR.out 7).trans rfl
 have fr4_7 := blk_frozen BR.out 7
 have cr4_8 : w4.cell? ⟨w.heap.size + 1, 8, none⟩ = some (.int .i64 0) := (blk_cell BR.out 8).trans rfl
 have fr4_8 := blk_frozen BR.out 8
 have cr4_9 : w4.cell? ⟨w.heap.size + 1, 9, none⟩ = some (.int .i64 0) := (blk_cell BR.out 9).trans rfl
 have fr4_9 := blk_frozen BR.out 9
 have cr4_10 : w4.cell? ⟨w.heap.size + 1, 10, none⟩ = some (.slice none 0 0) := (blk_cell BR.out 10).trans rfl
 have fr4_10 := blk_frozen BR.out 10
 have cr4_11 : w4.cell? ⟨w.heap.size + 1, 11, none⟩ = some (.slice none 0 0) := (blk_cell BR.out 11).trans rfl
 have fr4_11 := blk_frozen BR.out 11
 have cr4_12 : w4.cell? ⟨w.heap.size + 1, 12, none⟩ = some (.slice none 0 0) := (blk_cell BR.out 12).trans rfl
 have fr4_12 := blk_frozen BR.out 12
 have cr4_13 : w4.cell? ⟨w.heap.size + 1, 13, none⟩ = some (.int .i64 0) := (blk_cell BR.out 13).trans rfl
 have fr4_13 := blk_frozen BR.out 13
 have cr4_14 : w4.cell? ⟨w.heap.size + 1, 14, none⟩ = some (.slice none 0 0) := (blk_cell BR.out 14).trans rfl
 have fr4_14 := blk_frozen BR.out 14
 have cr4_15 : w4.cell? ⟨w.heap.size + 1, 15, none⟩ = some (.slice none 0 0) := (blk_cell BR.out 15).trans rfl
 have fr4_15 := blk_frozen BR.out 15
 have cr4_16 : w4.cell? ⟨w.heap.size + 1, 16, none⟩ = some (.slice none 0 0) := (blk_cell BR.out 16).trans rfl
 have fr4_16 := blk_frozen BR.out 16
 have cr4_17 : w4.cell? ⟨w.heap.size + 1, 17, none⟩ = some (.int .i64 0) := (blk_cell BR.out 17).trans rfl
 have fr4_17 := blk_frozen BR.out 17
 have cr4_18 : w4.cell? ⟨w.heap.size + 1, 18, none⟩ = some (.bool false) := (blk_cell BR.out 18).trans rfl
 have fr4_18 := blk_frozen BR.out 18
 have cr4_19 : w4.cell? ⟨w.heap.size + 1, 19, none⟩ = some (.bool false) := (blk_cell BR.out 19).trans rfl
 have fr4_19 := blk_frozen BR.out 19
 go_upto_region 8 with fail
 obtain ⟨W1, hW1⟩ : ∃ W, W = (puts w4 (w.heap.size + 1 + 1) 7 [.int .i64 a7, .int .i64 a8, .int .i64 a9, .slice B10 m10.length d10, .slice B11 m11.length d11, .slice B12 m12.length d12, .int .i64 a13, .slice B14 m14.length d14, .slice B15 m15.length d15, .slice B16 m16.length d16, .int .i64 a17, .bool a18, .bool a19]) := ⟨_, rfl⟩
 have YO : W1.heap[w.heap.size + 1 + 1]? = some (.cells (#[.slice B0 m0.length d0, .slice B1 m1.length d1, .int .i64 a2, .int .i64 a3, .int .i64 a4, .slice B5 m5.length d5, .slice B6 m6.length d6, .int .i64 a7, .int .i64 a8, .int .i64 a9, .slice B10 m10.length d10, .slice B11 m11.length d11, .slice B12 m12.length d12, .int .i64 a13, .slice B14 m14.length d14, .slice B15 m15.length d15, .slice B16 m16.length d16, .int .i64 a17, .bool a18, .bool a19] : Array Value) 51 (0, 0)) := by rw [hW1]; exact puts_blk _ [.slice B0 m0.length d0, .slice B1 m1.length d1, .int .i64 a2, .int .i64 a3, .int .i64 a4, .slice B5 m5.length d5, .slice B6 m6.length d6, .int .i64 0, .int .i64 0, .int .i64 0, .slice none 0 0, .slice none 0 0, .slice none 0 0, .int .i64 0, .slice none 0 0, .slice none 0 0, .slice none 0 0, .int .i64 0, .bool false, .bool false] _ 7 [.slice B0 m0.length d0, .slice B1 m1.length d1, .int .i64 a2, .int .i64 a3, .int .i64 a4, .slice B5 m5.length d5, .slice B6 m6.length d6, .int .i64 a7, .int .i64 a8, .int .i64 a9, .slice B10 m10.length d10, .slice B11 m11.length d11, .slice B12 m12.length d12, .int .i64 a13, .slice B14 m14.length d14, .slice B15 m15.length d15, .slice B16 m16.length d16, .int .i64 a17, .bool a18, .bool a19] BO.out rfl
 have YR : W1.heap[w.heap.size + 1]? = some (.cells (#[.slice none 0 0, .slice none 0 0, .int .i64 0, .int .i64 0, .int .i64 0, .slice none 0 0, .slice none 0 0, .int .i64 0, .int .i64 0, .int .i64 0, .slice none 0 0, .slice none 0 0, .slice none 0 0, .int .i64 0, .slice none 0 0, .slice none 0 0, .slice none 0 0, .int .i64 0, .bool false, .bool false] : Array Value) 51 (0, 0)) := by rw [hW1]; exact puts_far (by omega) _ _ _ BR.out
 have YL := Aside0.mk (show Below w.heap.size w W1 by rw [hW1]; exact puts_below (by omega) _ _ _ HB4.out)
 have Y0 := Aside0.mk (show Kd.R Kd.string 9 W1 _ (fun k => w.heap.size + 1 + 1 + 1 ≤ k) _ m0 by rw [hW1]; exact puts_R (by omega) _ _ _ T0.out)
 clear T0
 have Y1 := Aside0.mk (show Kd.R k189 189 W1 _ (fun k => w.heap.size + 1 + 1 + 1 ≤ k) _ m1 by rw [hW1]; exact puts_R (by omega) _ _ _ T1.out)
 clear T1
 have Y5 := Aside0.mk (show Kd.R k109 109 W1 _ (fun k => w.heap.size + 1 + 1 + 1 ≤ k) _ m5 by rw [hW1]; exact puts_R (by omega) _ _ _ T5.out)
 clear T5
 have Y6 := Aside0.mk (show Kd.R k99 99 W1 _ (fun k => w.heap.size + 1 + 1 + 1 ≤ k) _ m6 by rw [hW1]; exact puts_R (by omega) _ _ _ T6.out)
 clear T6
 have Y10 := Aside0.mk (show Kd.R k109 109 W1 _ (fun k => w.heap.size + 1 + 1 + 1 ≤ k) _ m10 by rw [hW1]; exact puts_R (by omega) _ _ _ T10.out)
 clear T10
 have Y11 := Aside0.mk (show Kd.R Kd.string 9 W1 _ (fun k => w.heap.size + 1 + 1 + 1 ≤ k) _ m11 by rw [hW1]; exact puts_R (by omega) _ _ _ T11.out)
 clear T11
 have Y12 := Aside0.mk (show Kd.R k189 189 W1 _ (fun k => w.heap.size + 1 + 1 + 1 ≤ k) _ m12 by rw [hW1]; exact puts_R (by omega) _ _ _ T12.out)
 clear T12
 have Y14 := Aside0.mk (show Kd.R (Kd.int .i64) 3 W1 _ (fun k => w.heap.size + 1 + 1 + 1 ≤ k) _ m14 by rw [hW1]; exact puts_R (by omega) _ _ _ T14.out)
 clear T14
 have Y15 := Aside0.mk (show Kd.R (Kd.int .i64) 3 W1 _ (fun k => w.heap.size + 1 + 1 + 1 ≤ k) _ m15 by rw [hW1]; exact puts_R (by omega) _ _ _ T15.out)
 clear T15
 have Y16 := Aside0.mk (show Kd.R (Kd.int .i64) 3 W1 _ (fun k => w.heap.size + 1 + 1 + 1 ≤ k) _ m16 by rw [hW1]; exact puts_R (by omega) _ _ _ T16.out)
 clear T16
 show Code.wp Try.prog _ _ _ (puts w4 (w.heap.size + 1 + 1) 7 [.int .i64 a7, .int .i64 a8, .int .i64 a9, .slice B10 m10.length d10, .slice B11 m11.length d11, .slice B12 m12.length d12, .int .i64 a13, .slice B14 m14.length d14, .slice B15 m15.length d15, .slice B16 m16.length d16, .int .i64 a17, .bool a18, .bool a19])
 rw [← hW1]
 clear hW1 BO BR BA HB4 hz4 co4_0 fo4_0 cr4_0 fr4_0 co4_1 fo4_1 cr4_1 fr4_1 co4_2 fo4_2 cr4_2 fr4_2 co4_3 fo4_3 cr4_3 fr4_3 co4_4 fo4_4 cr4_4 fr4_4 co4_5 fo4_5 cr4_5 fr4_5 co4_6 fo4_6 cr4_6 fr4_6 co4_7 fo4_7 cr4_7 fr4_7 co4_8 fo4_8 cr4_8 fr4_8 co4_9 fo4_9 cr4_9 fr4_9 co4_10 fo4_10 cr4_10 fr4_10 co4_11 fo4_11 cr4_11 fr4_11 co4_12 fo4_12 cr4_12 fr4_12 co4_13 fo4_13 cr4_13 fr4_13 co4_14 fo4_14 cr4_14 fr4_14 co4_15 fo4_15 cr4_15 fr4_15 co4_16 fo4_16 cr4_16 fr4_16 co4_17 fo4_17 cr4_17 fr4_17 co4_18 fo4_18 cr4_18 fr4_18 co4_19 fo4_19 cr4_19 fr4_19 ca4_18 ca4_19
 have hy1 : w.heap.size + 1 + 1 < W1.heap.size := blk_lt YO
 have hy2 : w.heap.size + 1 < W1.heap.size := by omega
 have YR_ := Aside0.mk YR
 have YO_ := Aside0.mk YO
 clear YR YO
 go_wp2_with (first | ((with_reducible refine gate_dst (N := 26) rfl ?_); refine ev_loadrow rfl 51 _ rfl (w.heap.size + 1 + 1) #[.slice B0 m0.length d0, .slice B1 m1.length d1, .int .i64 a2, .int .i64 a3, .int .i64 a4, .slice B5 m5.length d5, .slice B6 m6.length d6, .int .i64 a7, .int .i64 a8, .int .i64 a9, .slice B10 m10.length d10, .slice B11 m11.length d11, .slice B12 m12.length d12, .int .i64 a13, .slice B14 m14.length d14, .slice B15 m15.length d15, .slice B16 m16.length d16, .int .i64 a17, .bool a18, .bool a19] 51 _ rfl YO_.out Try.underlying51 rfl (by kernel_rfl) ?_) | ((with_reducible refine gate_store (t := 51) (p := 2) rfl ?_); refine ev_storerow rfl 51 _ _ rfl rfl (w.heap.size + 1) [.slice B0 m0.length d0, .slice B1 m1.length d1, .int .i64 a2, .int .i64 a3, .int .i64 a4, .slice B5 m5.length d5, .slice B6 m6.length d6, .int .i64 a7, .int .i64 a8, .int .i64 a9, .slice B10 m10.length d10, .slice B11 m11.length d11, .slice B12 m12.length d12, .int .i64 a13, .slice B14 m14.length d14, .slice B15 m15.length d15, .slice B16 m16.length d16, .int .i64 a17, .bool a18, .bool a19] #[.slice none 0 0, .slice none 0 0, .int .i64 0, .int .i64 0, .int .i64 0, .slice none 0 0, .slice none 0 0, .int .i64 0, .int .i64 0, .int .i64 0, .slice none 0 0, .slice none 0 0, .slice none 0 0, .int .i64 0, .slice none 0 0, .slice none 0 0, .slice none 0 0, .int .i64 0, .bool false, .bool false] 51 rfl rfl YR_.out (by kernel_rfl) (Nat.le_refl 20) rfl ?_))
 obtain ⟨W, hW⟩ : ∃ W, W = (puts W1 (w.heap.size + 1) 0 [.slice B0 m0.length d0, .slice B1 m1.length d1, .int .i64 a2, .int .i64 a3, .int .i64 a4, .slice B5 m5.length d5, .slice B6 m6.length d6, .int .i64 a7, .int .i64 a8, .int .i64 a9, .slice B10 m10.length d10, .slice B11 m11.length d11, .slice B12 m12.length d12, .int .i64 a13, .slice B14 m14.length d14, .slice B15 m15.length d15, .slice B16 m16.length d16, .int .i64 a17, .bool a18, .bool a19]) := ⟨_, rfl⟩
 have XB : W.heap[w.heap.size + 1]? = some (.cells (#[.slice B0 m0.length d0, .slice B1 m1.length d1, .int .i64 a2, .int .i64 a3, .int .i64 a4, .slice B5 m5.length d5, .slice B6 m6.length d6, .int .i64 a7, .int .i64 a8, .int .i64 a9, .slice B10 m10.length d10, .slice B11 m11.length d11, .slice B12 m12.length d12, .int .i64 a13, .slice B14 m14.length d14, .slice B15 m15.length d15, .slice B16 m16.length d16, .int .i64 a17, .bool a18, .bool a19] : Array Value) 51 (0, 0)) := by rw [hW]; exact puts_blk _ [.slice none 0 0, .slice none 0 0, .int .i64 0, .int .i64 0, .int .i64 0, .slice none 0 0, .slice none 0 0, .int .i64 0, .int .i64 0, .int .i64 0, .slice none 0 0, .slice none 0 0, .slice none 0 0, .int .i64 0, .slice none 0 0, .slice none 0 0, .slice none 0 0, .int .i64 0, .bool false, .bool false] _ 0 [.slice B0 m0.length d0, .slice B1 m1.length d1, .int .i64 a2, .int .i64 a3, .int .i64 a4, .slice B5 m5.length d5, .slice B6 m6.length d6, .int .i64 a7, .int .i64 a8, .int .i64 a9, .slice B10 m10.length d10, .slice B11 m11.length d11, .slice B12 m12.length d12, .int .i64 a13, .slice B14 m14.length d14, .slice B15 m15.length d15, .slice B16 m16.length d16, .int .i64 a17, .bool a18, .bool a19] YR_.out (putsA_row _ _ [] rfl)
 have XL : Below w.heap.size w W := by rw [hW]; exact puts_below (by omega) _ _ _ YL.out
 have X0 := Kd.R_reads (show Kd.R Kd.string 9 W _ (fun k => w.heap.size + 1 + 1 + 1 ≤ k) _ m0 by rw [hW]; exact puts_R (by omega) _ _ _ Y0.out)
 have X1 := Kd.R_reads (show Kd.R k189 189 W _ (fun k => w.heap.size + 1 + 1 + 1 ≤ k) _ m1 by rw [hW]; exact puts_R (by omega) _ _ _ Y1.out)
 have X5 := Kd.R_reads (show Kd.R k109 109 W _ (fun k => w.heap.size + 1 + 1 + 1 ≤ k) _ m5 by rw [hW]; exact puts_R (by omega) _ _ _ Y5.out)
 have X6 := Kd.R_reads (show Kd.R k99 99 W _ (fun k => w.heap.size + 1 + 1 + 1 ≤ k) _ m6 by rw [hW]; exact puts_R (by omega) _ _ _ Y6.out)
 have X10 := Kd.R_reads (show Kd.R k109 109 W _ (fun k => w.heap.size + 1 + 1 + 1 ≤ k) _ m10 by rw [hW]; exact puts_R (by omega) _ _ _ Y10.out)
 have X11 := Kd.R_reads (show Kd.R Kd.string 9 W _ (fun k => w.heap.size + 1 + 1 + 1 ≤ k) _ m11 by rw [hW]; exact puts_R (by omega) _ _ _ Y11.out)
 have X12 := Kd.R_reads (show Kd.R k189 189 W _ (fun k => w.heap.size + 1 + 1 + 1 ≤ k) _ m12 by rw [hW]; exact puts_R (by omega) _ _ _ Y12.out)
 have X14 := Kd.R_reads (show Kd.R (Kd.int .i64) 3 W _ (fun k => w.heap.size + 1 + 1 + 1 ≤ k) _ m14 by rw [hW]; exact puts_R (by omega) _ _ _ Y14.out)
 have X15 := Kd.R_reads (show Kd.R (Kd.int .i64) 3 W _ (fun k => w.heap.size + 1 + 1 + 1 ≤ k) _ m15 by rw [hW]; exact puts_R (by omega) _ _ _ Y15.out)
 have X16 := Kd.R_reads (show Kd.R (Kd.int .i64) 3 W _ (fun k => w.heap.size + 1 + 1 + 1 ≤ k) _ m16 by rw [hW]; exact puts_R (by omega) _ _ _ Y16.out)
 rw [hW] at XB
 refine bodyPost_ret (v := .agg #[.slice B0 m0.length d0, .slice B1 m1.length d1, .int .i64 a2, .int .i64 a3, .int .i64 a4, .slice B5 m5.length d5, .slice B6 m6.length d6, .int .i64 a7, .int .i64 a8, .int .i64 a9, .slice B10 m10.length d10, .slice B11 m11.length d11, .slice B12 m12.length d12, .int .i64 a13, .slice B14 m14.length d14, .slice B15 m15.length d15, .slice B16 m16.length d16, .int .i64 a17, .bool a18, .bool a19]) (oresults_c rfl _ _ (w.heap.size + 1) 51 #[.slice B0 m0.length d0, .slice B1 m1.length d1, .int .i64 a2, .int .i64 a3, .int .i64 a4, .slice B5 m5.length d5, .slice B6 m6.length d6, .int .i64 a7, .int .i64 a8, .int .i64 a9, .slice B10 m10.length d10, .slice B11 m11.length d11, .slice B12 m12.length d12, .int .i64 a13, .slice B14 m14.length d14, .slice B15 m15.length d15, .slice B16 m16.length d16, .int .i64 a17, .bool a18, .bool a19] (0, 0) _ rfl XB Try.underlying51 rfl (by kernel_rfl)) rfl ?_
 show ToPost a2 a3 a4 a7 a8 a9 a13 a17 a18 a19 m0 m1 m5 m6 m10 m11 m12 m14 m15 m16 w _ (puts W1 (w.heap.size + 1) 0 [.slice B0 m0.length d0, .slice B1 m1.length d1, .int .i64 a2, .int .i64 a3, .int .i64 a4, .slice B5 m5.length d5, .slice B6 m6.length d6, .int .i64 a7, .int .i64 a8, .int .i64 a9, .slice B10 m10.length d10, .slice B11 m11.length d11, .slice B12 m12.length d12, .int .i64 a13, .slice B14 m14.length d14, .slice B15 m15.length d15, .slice B16 m16.length d16, .int .i64 a17, .bool a18, .bool a19])
 rw [← hW]
 exact ⟨_, _, _, _, _, _, _, _, _, _, rfl, X0, X1, X5, X6, X10, X11, X12, X14, X15, X16, XL⟩
def impl_OldestOf.l0 : Nat → Int → List (S99) → Int → Int → Option (Int)
 | 0, _, _, _, _ => none
 | k + 1, x3, x10, x11, x12 => if x12 < x11 then (if 0 ≤ x12 then (if x12 < (x10.length : Int) then (impl_OldestOf.l0 k (mn x3 ((rd_T99 x10 x12).f1.f0)) x10 x11 (wrap64 (x12 + 1))) else (none)) else (none)) else (some x3)
def impl_OldestOf.f (k : Nat) (l0_0 : List ByteArray) (l0_1 : List (S189)) (a0_2 : Int) (a0_3 : Int) (a0_4 : Int) (l0_5 : List (S109)) (l0_6 : List (S99)) (a0_7 : Int) (a0_8 : Int) (a0_9 : Int) (l0_10 : List (S109)) (l0_11 : List ByteArray) (l0_12 : List (S189)) (a0_13 : Int) (l0_14 : List Int) (l0_15 : List Int) (l0_16 : List Int) (a0_17 : Int) (a0_18 : Bool) (a0_19 : Bool) : Option (Int) := impl_OldestOf.l0 k a0_2 l0_6 (l0_6.length : Int) 0
theorem impl_OldestOf.mono_l : ∀ k, (∀ y0 y1 y2 y3, LeO (impl_OldestOf.l0 k y0 y1 y2 y3) (impl_OldestOf.l0 (k + 1) y0 y1 y2 y3))
 | 0 => fun _ _ _ _ r h => by simp [impl_OldestOf.l0] at h
 | k + 1 => by
  have ih0 := impl_OldestOf.mono_l k
  ·intro y0 y1 y2 y3
   unfold impl_OldestOf.l0
   repeat' first
   | (with_reducible exact ih0 _ _ _ _)
   | (with_reducible exact LeO.refl _)
   | (with_reducible exact LeO.none _)
   | (with_reducible refine LeO.ite ?_ ?_)
   | (with_reducible refine LeO.bind ?_ (fun _ => ?_))
   | exact ih0 _ _ _ _
theorem impl_OldestOf.mono : ∀ a0 a1 a2 a3 a4 a5 a6 a7 a8 a9 a10 a11 a12 a13 a14 a15 a16 a17 a18 a19 k, LeO (impl_OldestOf.f k a0 a1 a2 a3 a4 a5 a6 a7 a8 a9 a10 a11 a12 a13 a14 a15 a16 a17 a18 a19) (impl_OldestOf.f (k + 1) a0 a1 a2 a3 a4 a5 a6 a7 a8 a9 a10 a11 a12 a13 a14 a15 a16 a17 a18 a19) := by
 intro a0 a1 a2 a3 a4 a5 a6 a7 a8 a9 a10 a11 a12 a13 a14 a15 a16 a17 a18 a19 k
 have ih0 := impl_OldestOf.mono_l k
 unfold impl_OldestOf.f
 repeat' first
   | (with_reducible exact ih0 _ _ _ _)
   | (with_reducible exact LeO.refl _)
   | (with_reducible exact LeO.none _)
   | (with_reducible refine LeO.ite ?_ ?_)
   | (with_reducible refine LeO.bind ?_ (fun _ => ?_))
   | exact ih0 _ _ _ _
theorem impl_OldestOf.calls (k : Nat) (A0_0 : Option Addr) (c0_0 : Nat) (l0_0 : List ByteArray) (A0_1 : Option Addr) (c0_1 : Nat) (l0_1 : List (S189)) (a0_2 : Int) (a0_3 : Int) (a0_4 : Int) (A0_5 : Option Addr) (c0_5 : Nat) (l0_5 : List (S109)) (A0_6 : Option Addr) (c0_6 : Nat) (l0_6 : List (S99)) (a0_7 : Int) (a0_8 : Int) (a0_9 : Int) (A0_10 : Option Addr) (c0_10 : Nat) (l0_10 : List (S109)) (A0_11 : Option Addr) (c0_11 : Nat) (l0_11 : List ByteArray) (A0_12 : Option Addr) (c0_12 : Nat) (l0_12 : List (S189)) (a0_13 : Int) (A0_14 : Option Addr) (c0_14 : Nat) (l0_14 : List Int) (A0_15 : Option Addr) (c0_15 : Nat) (l0_15 : List Int) (A0_16 : Option Addr) (c0_16 : Nat) (l0_16 : List Int) (a0_17 : Int) (a0_18 : Bool) (a0_19 : Bool) (r : Int) (w : World) (hr0_0 : Kd.C Kd.string w A0_0 l0_0.length l0_0) (hc0_0 : l0_0.length ≤ c0_0) (hr0_1 : Kd.C k189 w A0_1 l0_1.length l0_1) (hc0_1 : l0_1.length ≤ c0_1) (hr0_5 : Kd.C k109 w A0_5 l0_5.length l0_5) (hc0_5 : l0_5.length ≤ c0_5) (hr0_6 : Kd.C k99 w A0_6 l0_6.length l0_6) (hc0_6 : l0_6.length ≤ c0_6) (hr0_10 : Kd.C k109 w A0_10 l0_10.length l0_10) (hc0_10 : l0_10.length ≤ c0_10) (hr0_11 : Kd.C Kd.string w A0_11 l0_11.length l0_11) (hc0_11 : l0_11.length ≤ c0_11) (hr0_12 : Kd.C k189 w A0_12 l0_12.length l0_12) (hc0_12 : l0_12.length ≤ c0_12) (hr0_14 : Kd.C (Kd.int .i64) w A0_14 l0_14.length l0_14) (hc0_14 : l0_14.length ≤ c0_14) (hr0_15 : Kd.C (Kd.int .i64) w A0_15 l0_15.length l0_15) (hc0_15 : l0_15.length ≤ c0_15) (hr0_16 : Kd.C (Kd.int .i64) w A0_16 l0_16.length l0_16) (hc0_16 : l0_16.length ≤ c0_16) (h : impl_OldestOf.f k l0_0 l0_1 a0_2 a0_3 a0_4 l0_5 l0_6 a0_7 a0_8 a0_9 l0_10 l0_11 l0_12 a0_13 l0_14 l0_15 l0_16 a0_17 a0_18 a0_19 = some r) :
  Calls Try.prog 14 #[.agg #[.slice A0_0 l0_0.length c0_0, .slice A0_1 l0_1.length c0_1, .int .i64 a0_2, .int .i64 a0_3, .int .i64 a0_4, .slice A0_5 l0_5.length c0_5, .slice A0_6 l0_6.length c0_6, .int .i64 a0_7, .int .i64 a0_8, .int .i64 a0_9, .slice A0_10 l0_10.length c0_10, .slice A0_11 l0_11.length c0_11, .slice A0_12 l0_12.length c0_12, .int .i64 a0_13, .slice A0_14 l0_14.length c0_14, .slice A0_15 l0_15.length c0_15, .slice A0_16 l0_16.length c0_16, .int .i64 a0_17, .bool a0_18, .bool a0_19]] w fun e w' => e = .returned (.int .i64 r) ∧ Below w.heap.size w w' := by
 have hu51 := Try.underlying51
 have hu99 := Try.underlying99
 have HR0_0 := Aside0.mk hr0_0
 have HC0_0 := Aside0.mk hc0_0
 clear hr0_0 hc0_0
 have HR0_1 := Aside0.mk hr0_1
 have HC0_1 := Aside0.mk hc0_1
 clear hr0_1 hc0_1
 have HR0_5 := Aside0.mk hr0_5
 have HC0_5 := Aside0.mk hc0_5
 clear hr0_5 hc0_5
 have HR0_6 := Aside0.mk hr0_6
 have HC0_6 := Aside0.mk hc0_6
 clear hr0_6 hc0_6
 have HR0_10 := Aside0.mk hr0_10
 have HC0_10 := Aside0.mk hc0_10
 clear hr0_10 hc0_10
 have HR0_11 := Aside0.mk hr0_11
 have HC0_11 := Aside0.mk hc0_11
 clear hr0_11 hc0_11
 have HR0_12 := Aside0.mk hr0_12
 have HC0_12 := Aside0.mk hc0_12
 clear hr0_12 hc0_12
 have HR0_14 := Aside0.mk hr0_14
 have HC0_14 := Aside0.mk hc0_14
 clear hr0_14 hc0_14
 have HR0_15 := Aside0.mk hr0_15
 have HC0_15 := Aside0.mk hc0_15
 clear hr0_15 hc0_15
 have HR0_16 := Aside0.mk hr0_16
 have HC0_16 := Aside0.mk hc0_16
 clear hr0_16 hc0_16
 have HB := Aside0.mk (Below.refl w.heap.size w)
 have H : (impl_OldestOf.l0 k a0_2 l0_6 (l0_6.length : Int) 0) = some r := h
 clear h
 have H' := Aside0.mk H
 clear H
 go_enter Try.func14, Try.ntmps14
 go_wp2_with (first | ((with_reducible refine gate_dst (N := 1) rfl ?_); refine box_event ?hg (N := 1) ?hd (cs := #[.slice A0_0 l0_0.length c0_0, .slice A0_1 l0_1.length c0_1, .int .i64 a0_2, .int .i64 a0_3, .int .i64 a0_4, .slice A0_5 l0_5.length c0_5, .slice A0_6 l0_6.length c0_6, .int .i64 a0_7, .int .i64 a0_8, .int .i64 a0_9, .slice A0_10 l0_10.length c0_10, .slice A0_11 l0_11.length c0_11, .slice A0_12 l0_12.length c0_12, .int .i64 a0_13, .slice A0_14 l0_14.length c0_14, .slice A0_15 l0_15.length c0_15, .slice A0_16 l0_16.length c0_16, .int .i64 a0_17, .bool a0_18, .bool a0_19]) (t := 51) ?hr ?_; (case hd => rfl); (case hg => rfl); (case hr => first | (go_simp; done) | (go_simp; rfl)); intro gb243 hg w2 hbox hb; have n0_ := Aside0.mk (below_step (by repeat (first | (with_reducible first | exact HB.out | apply below_alloc | apply pw_below_drewN | apply below_drew1) | exact HB.out)) hb); have n1_ := Aside0.mk (hbox); have n2_ := Aside0.mk ((by rw [hg]; exact (below_size (by repeat (first | (with_reducible first | exact HB.out | apply below_alloc | apply pw_below_drewN | apply below_drew1) | exact HB.out))) : w.heap.size ≤ gb243)); have n3_ := Aside0.mk ((by rw [hg]; exact (below_size (by repeat (first | (with_reducible first | exact HB.out | apply below_alloc | apply pw_below_drewN | apply below_drew1) | exact HB.out))) : w.heap.size ≤ gb243)); clear HB; have HB := n0_; have BK243 := n1_; have GW243 := n2_; have GE243 := n3_; clear n0_ n1_ n2_ n3_; clear hb hbox hg; have hcz3_0 : w2.cell? ⟨gb243, 0, none⟩ = some (.slice A0_0 l0_0.length c0_0) := (blk_cell BK243.out 0).trans rfl; have hcz3_1 : w2.cell? ⟨gb243, 1, none⟩ = some (.slice A0_1 l0_1.length c0_1) := (blk_cell BK243.out 1).trans rfl; have hcz3_2 : w2.cell? ⟨gb243, 2, none⟩ = some (.int .i64 a0_2) := (blk_cell BK243.out 2).trans rfl; have hcz3_3 : w2.cell? ⟨gb243, 3, none⟩ = some (.int .i64 a0_3) := (blk_cell BK243.out 3).trans rfl; have hcz3_4 : w2.cell? ⟨gb243, 4, none⟩ = some (.int .i64 a0_4) := (blk_cell BK243.out 4).trans rfl; have hcz3_5 : w2.cell? ⟨gb243, 5, none⟩ = some (.slice A0_5 l0_5.length c0_5) := (blk_cell BK243.out 5).trans rfl; have hcz3_6 : w2.cell? ⟨gb243, 6, none⟩ = some (.slice A0_6 l0_6.length c0_6) := (blk_cell BK243.out 6).trans rfl; have hcz3_7 : w2.cell? ⟨gb243, 7, none⟩ = some (.int .i64 a0_7) := (blk_cell BK243.out 7).trans rfl; have hcz3_8 : w2.cell? ⟨gb243, 8, none⟩ = some (.int .i64 a0_8) := (blk_cell BK243.out 8).trans rfl; have hcz3_9 : w2.cell? ⟨gb243, 9, none⟩ = some (.int .i64 a0_9) := (blk_cell BK243.out 9).trans rfl; have hcz3_10 : w2.cell? ⟨gb243, 10, none⟩ = some (.slice A0_10 l0_10.length c0_10) := (blk_cell BK243.out 10).trans rfl; have hcz3_11 : w2.cell? ⟨gb243, 11, none⟩ = some (.slice A0_11 l0_11.length c0_11) := (blk_cell BK243.out 11).trans rfl; have hcz3_12 : w2.cell? ⟨gb243, 12, none⟩ = some (.slice A0_12 l0_12.length c0_12) := (blk_cell BK243.out 12).trans rfl; have hcz3_13 : w2.cell? ⟨gb243, 13, none⟩ = some (.int .i64 a0_13) := (blk_cell BK243.out 13).trans rfl; have hcz3_14 : w2.cell? ⟨gb243, 14, none⟩ = some (.slice A0_14 l0_14.length c0_14) := (blk_cell BK243.out 14).trans rfl; have hcz3_15 : w2.cell? ⟨gb243, 15, none⟩ = some (.slice A0_15 l0_15.length c0_15) := (blk_cell BK243.out 15).trans rfl; have hcz3_16 : w2.cell? ⟨gb243, 16, none⟩ = some (.slice A0_16 l0_16.length c0_16) := (blk_cell BK243.out 16).trans rfl; have hcz3_17 : w2.cell? ⟨gb243, 17, none⟩ = some (.int .i64 a0_17) := (blk_cell BK243.out 17).trans rfl; have hcz3_18 : w2.cell? ⟨gb243, 18, none⟩ = some (.bool a0_18) := (blk_cell BK243.out 18).trans rfl; have hcz3_19 : w2.cell? ⟨gb243, 19, none⟩ = some (.bool a0_19) := (blk_cell BK243.out 19).trans rfl; have hfz3_0 := blk_frozen BK243.out 0; have hfz3_1 := blk_frozen BK243.out 1; have hfz3_2 := blk_frozen BK243.out 2; have hfz3_3 := blk_frozen BK243.out 3; have hfz3_4 := blk_frozen BK243.out 4; have hfz3_5 := blk_frozen BK243.out 5; have hfz3_6 := blk_frozen BK243.out 6; have hfz3_7 := blk_frozen BK243.out 7; have hfz3_8 := blk_frozen BK243.out 8; have hfz3_9 := blk_frozen BK243.out 9; have hfz3_10 := blk_frozen BK243.out 10; have hfz3_11 := blk_frozen BK243.out 11; have hfz3_12 := blk_frozen BK243.out 12; have hfz3_13 := blk_frozen BK243.out 13; have hfz3_14 := blk_frozen BK243.out 14; have hfz3_15 := blk_frozen BK243.out 15; have hfz3_16 := blk_frozen BK243.out 16; have hfz3_17 := blk_frozen BK243.out 17; have hfz3_18 := blk_frozen BK243.out 18; have hfz3_19 := blk_frozen BK243.out 19))
 go_loopg [3, 12] k (fun kq v3 v12 w' => ∃ (x3_1 : Int) (x12_1 : Int), v3 = .int .i64 x3_1 ∧ v12 = .int .i64 x12_1 ∧ Aside0 (impl_OldestOf.l0 kq x3_1 l0_6 (l0_6.length : Int) x12_1 = some r) ∧ Aside0 (kq ≤ k) ∧ Aside0 (w'.heap[gb243]? = some (.cells #[(.slice A0_0 l0_0.length c0_0), (.slice A0_1 l0_1.length c0_1), .int .i64 a0_2, .int .i64 a0_3, .int .i64 a0_4, (.slice A0_5 l0_5.length c0_5), (.slice A0_6 l0_6.length c0_6), .int .i64 a0_7, .int .i64 a0_8, .int .i64 a0_9, (.slice A0_10 l0_10.length c0_10), (.slice A0_11 l0_11.length c0_11), (.slice A0_12 l0_12.length c0_12), .int .i64 a0_13, (.slice A0_14 l0_14.length c0_14), (.slice A0_15 l0_15.length c0_15), (.slice A0_16 l0_16.length c0_16), .int .i64 a0_17, .bool a0_18, .bool a0_19] 51 (0, 0))) ∧ Aside0 (Below w.heap.size w w'))
 case atStart => exact ⟨(a0_2), (0), (by first | rfl | (simp; done) | (simp [*]; done)), (by first | rfl | (simp; done) | (simp [*]; done)), H', ⟨Nat.le_refl _⟩, ⟨by (with_reducible repeat (first | refine blk_drewN ?_ _ | refine blk_drew ?_ | refine blk_alloc ?_ _)); exact BK243.out⟩, ⟨by repeat (first | (with_reducible first | exact HB.out | apply below_alloc | apply pw_below_drewN | apply below_drew1 | refine below_set ?_ GE243.out) | exact HB.out)⟩⟩
 case round =>
  clear H'
  try clear hcz3_0
  try clear hcz3_1
  try clear hcz3_10
  try clear hcz3_11
  try clear hcz3_12
  try clear hcz3_13
  try clear hcz3_14
  try clear hcz3_15
  try clear hcz3_16
  try clear hcz3_17
  try clear hcz3_18
  try clear hcz3_19
  try clear hcz3_2
  try clear hcz3_3
  try clear hcz3_4
  try clear hcz3_5
  try clear hcz3_6
  try clear hcz3_7
  try clear hcz3_8
  try clear hcz3_9
  try clear hfz3_0
  try clear hfz3_1
  try clear hfz3_10
  try clear hfz3_11
  try clear hfz3_12
  try clear hfz3_13
  try clear hfz3_14
  try clear hfz3_15
  try clear hfz3_16
  try clear hfz3_17
  try clear hfz3_18
  try clear hfz3_19
  try clear hfz3_2
  try clear hfz3_3
  try clear hfz3_4
  try clear hfz3_5
  try clear hfz3_6
  try clear hfz3_7
  try clear hfz3_8
  try clear hfz3_9
  obtain ⟨x3_1, x12_1, rfl, rfl, HA, HK1, BK243, HB⟩ := hrel
  cases gk with
  | zero => exact absurd HA.out (by simp [impl_OldestOf.l0])
  | succ k1 =>
   have H := HA.out
   clear HA
   simp only [impl_OldestOf.l0] at H
   by_cases c4 : x12_1 < (l0_6.length : Int)
   ·rw [if_pos c4] at H
    have c4b0 : decide (x12_1 < (l0_6.length : Int)) = true := decide_eq_true c4
    clear c4
    by_cases c5 : 0 ≤ x12_1
    ·rw [if_pos c5] at H
     have c5b0 : decide (0 ≤ x12_1) = true := decide_eq_true c5
     clear c5
     by_cases c6 : x12_1 < (l0_6.length : Int)
     ·rw [if_pos c6] at H
      have c6b0 : decide (x12_1 < (l0_6.length : Int)) = true := decide_eq_true c6
      clear c6
      obtain ⟨ji7, hji7⟩ : ∃ j_ : Int, (mn x3_1 ((rd_T99 l0_6 x12_1).f1.f0)) = j_ := ⟨_, rfl⟩
      replace H : (impl_OldestOf.l0 k1 ji7 l0_6 (l0_6.length : Int) (wrap64 (x12_1 + 1))) = some r := by first | (rw [hji7] at H; exact H) | (simp only [hji7] at H ⊢; exact H)
      have hji7_ : (if ((rd_T99 l0_6 x12_1).f1.f0) < x3_1 then ((rd_T99 l0_6 x12_1).f1.f0) else x3_1) = ji7 := hji7
      have H' := Aside0.mk H
      clear H
      have p244 : 0 ≤ (x12_1 : Int) := of_decide_eq_true (by with_reducible assumption)
      have q244 : x12_1 < (l0_6.length : Int) := of_decide_eq_true (by with_reducible assumption)
      obtain ⟨ad244, A244_4, c244_4, e244, hx244_0, hx244_1, hx244_2, hx244_3, hx244_4, hl244_4, hi244_4⟩ := at_T99 HR0_6.out x12_1 p244 q244
      cases e244
      replace hx244_0 := (HB.out.cell (World.block_lt_of_cell? w _ hx244_0)).trans hx244_0
      replace hx244_1 := (HB.out.cell (World.block_lt_of_cell? w _ hx244_1)).trans hx244_1
      replace hx244_2 := (HB.out.cell (World.block_lt_of_cell? w _ hx244_2)).trans hx244_2
      replace hx244_3 := (HB.out.cell (World.block_lt_of_cell? w _ hx244_3)).trans hx244_3
      replace hx244_4 := (HB.out.cell (World.block_lt_of_cell? w _ hx244_4)).trans hx244_4
      have HR244_4 := Aside0.mk hi244_4
      have HC244_4 := Aside0.mk hl244_4
      clear hi244_4 hl244_4
      replace p244 := eq_true p244
      replace q244 := eq_true q244
      go_wp2_with (first | ((with_reducible refine gate_dst (N := 5) rfl ?_); refine box_event ?hg (N := 5) ?hd (cs := #[.int .i64 0, .int .i64 0, .int .i64 0, .int .i64 0, .slice none 0 0]) (t := 99) ?hr ?_; (case hd => rfl); (case hg => rfl); (case hr => first | (go_simp; done) | (go_simp; rfl)); intro gb245 hg w8 hbox hb; have n0_ := Aside0.mk (blk_below (g := gb243) (o := .cells #[.slice A0_0 l0_0.length c0_0, .slice A0_1 l0_1.length c0_1, .int .i64 a0_2, .int .i64 a0_3, .int .i64 a0_4, .slice A0_5 l0_5.length c0_5, .slice (some ad244) l0_6.length c0_6, .int .i64 a0_7, .int .i64 a0_8, .int .i64 a0_9, .slice A0_10 l0_10.length c0_10, .slice A0_11 l0_11.length c0_11, .slice A0_12 l0_12.length c0_12, .int .i64 a0_13, .slice A0_14 l0_14.length c0_14, .slice A0_15 l0_15.length c0_15, .slice A0_16 l0_16.length c0_16, .int .i64 a0_17, .bool a0_18, .bool a0_19] 51 (0, 0)) (by (with_reducible repeat (first | refine blk_drewN ?_ _ | refine blk_drew ?_ | refine blk_alloc ?_ _)); exact BK243.out) hb); have n1_ := Aside0.mk (below_step (by repeat (first | (with_reducible first | exact HB.out | apply below_alloc | apply pw_below_drewN | apply below_drew1 | refine below_set ?_ GE243.out) | exact HB.out)) hb); have n2_ := Aside0.mk (hbox); have n3_ := Aside0.mk ((by rw [hg]; exact (below_size (by repeat (first | (with_reducible first | exact HB.out | apply below_alloc | apply pw_below_drewN | apply below_drew1 | refine below_set ?_ GE243.out) | exact HB.out))) : w.heap.size ≤ gb245)); have n4_ := Aside0.mk ((by rw [hg]; exact (below_size (by repeat (first | (with_reducible first | exact HB.out | apply below_alloc | apply pw_below_drewN | apply below_drew1 | refine below_set ?_ GE243.out) | exact HB.out))) : w.heap.size ≤ gb245)); have n5_ := Aside0.mk ((by rw [hg]; exact Nat.ne_of_lt (blk_lt (g := gb243) (o := .cells #[.slice A0_0 l0_0.length c0_0, .slice A0_1 l0_1.length c0_1, .int .i64 a0_2, .int .i64 a0_3, .int .i64 a0_4, .slice A0_5 l0_5.length c0_5, .slice (some ad244) l0_6.length c0_6, .int .i64 a0_7, .int .i64 a0_8, .int .i64 a0_9, .slice A0_10 l0_10.length c0_10, .slice A0_11 l0_11.length c0_11, .slice A0_12 l0_12.length c0_12, .int .i64 a0_13, .slice A0_14 l0_14.length c0_14, .slice A0_15 l0_15.length c0_15, .slice A0_16 l0_16.length c0_16, .int .i64 a0_17, .bool a0_18, .bool a0_19] 51 (0, 0)) (by (with_reducible repeat (first | refine blk_drewN ?_ _ | refine blk_drew ?_ | refine blk_alloc ?_ _)); exact BK243.out)) : gb243 ≠ gb245)); have n6_ := Aside0.mk ((by rw [hg]; exact Nat.ne_of_gt (blk_lt (g := gb243) (o := .cells #[.slice A0_0 l0_0.length c0_0, .slice A0_1 l0_1.length c0_1, .int .i64 a0_2, .int .i64 a0_3, .int .i64 a0_4, .slice A0_5 l0_5.length c0_5, .slice (some ad244) l0_6.length c0_6, .int .i64 a0_7, .int .i64 a0_8, .int .i64 a0_9, .slice A0_10 l0_10.length c0_10, .slice A0_11 l0_11.length c0_11, .slice A0_12 l0_12.length c0_12, .int .i64 a0_13, .slice A0_14 l0_14.length c0_14, .slice A0_15 l0_15.length c0_15, .slice A0_16 l0_16.length c0_16, .int .i64 a0_17, .bool a0_18, .bool a0_19] 51 (0, 0)) (by (with_reducible repeat (first | refine blk_drewN ?_ _ | refine blk_drew ?_ | refine blk_alloc ?_ _)); exact BK243.out)) : gb245 ≠ gb243)); clear BK243; clear HB; have BK243 := n0_; have HB := n1_; have BK245 := n2_; have GW245 := n3_; have GE245 := n4_; have NB243_245 := n5_; have NB245_243 := n6_; clear n0_ n1_ n2_ n3_ n4_ n5_ n6_; clear hb hbox hg; have hnb9 := NB245_243.out; have hnc9 := NB243_245.out; have hcz10_0 : w8.cell? ⟨gb245, 0, none⟩ = some (.int .i64 0) := (blk_cell BK245.out 0).trans rfl; have hcz10_1 : w8.cell? ⟨gb245, 1, none⟩ = some (.int .i64 0) := (blk_cell BK245.out 1).trans rfl; have hcz10_2 : w8.cell? ⟨gb245, 2, none⟩ = some (.int .i64 0) := (blk_cell BK245.out 2).trans rfl; have hcz10_3 : w8.cell? ⟨gb245, 3, none⟩ = some (.int .i64 0) := (blk_cell BK245.out 3).trans rfl; have hcz10_4 : w8.cell? ⟨gb245, 4, none⟩ = some (.slice none 0 0) := (blk_cell BK245.out 4).trans rfl; have hfz10_0 := blk_frozen BK245.out 0; have hfz10_1 := blk_frozen BK245.out 1; have hfz10_2 := blk_frozen BK245.out 2; have hfz10_3 := blk_frozen BK245.out 3; have hfz10_4 := blk_frozen BK245.out 4))
      go_roundg k1
      case measure => have := HK1.out; omega
      case rel => exact ⟨(ji7), (wrap64 (x12_1 + 1)), (by first | rfl | (simp; done) | (simp only [← hji7] <;> (first | rfl | simp)) | (simp [*]; done)), (by first | rfl | (simp; done) | (simp [*]; done)), H', ⟨by have := HK1.out; omega⟩, ⟨by (with_reducible repeat (first | refine blk_drewN ?_ _ | refine blk_drew ?_ | refine blk_alloc ?_ _)); refine blk_far ?_ NB243_245.out _; (with_reducible repeat (first | refine blk_drewN ?_ _ | refine blk_drew ?_ | refine blk_alloc ?_ _)); refine blk_far ?_ NB243_245.out _; (with_reducible repeat (first | refine blk_drewN ?_ _ | refine blk_drew ?_ | refine blk_alloc ?_ _)); refine blk_far ?_ NB243_245.out _; (with_reducible repeat (first | refine blk_drewN ?_ _ | refine blk_drew ?_ | refine blk_alloc ?_ _)); refine blk_far ?_ NB243_245.out _; (with_reducible repeat (first | refine blk_drewN ?_ _ | refine blk_drew ?_ | refine blk_alloc ?_ _)); refine blk_far ?_ NB243_245.out _; (with_reducible repeat (first | refine blk_drewN ?_ _ | refine blk_drew ?_ | refine blk_alloc ?_ _)); exact BK243.out⟩, ⟨by repeat (first | (with_reducible first | exact HB.out | apply below_alloc | apply pw_below_drewN | apply below_drew1 | refine below_set ?_ GE243.out | refine below_set ?_ GE245.out) | exact HB.out)⟩⟩
     ·rw [if_neg c6] at H
      exact absurd H (by simp)
    ·rw [if_neg c5] at H
     exact absurd H (by simp)
   ·rw [if_neg c4] at H
    have c4b0 : decide (x12_1 < (l0_6.length : Int)) = false := decide_eq_false c4
    clear c4
    obtain rfl := Option.some.inj H
    go_wp2
    go_ret
    exact ⟨by first | rfl | (simp [errW_none, errW_some] <;> rfl) | (simp [*, errW_none, errW_some] <;> rfl), by repeat (first | (with_reducible first | exact HB.out | apply below_alloc | apply pw_below_drewN | apply below_drew1 | refine below_set ?_ GE243.out) | exact HB.out)⟩
def laws_eqReader.f (k : Nat) (a0_0 : Int) (a0_1 : Int) (a0_2 : Int) (a0_3 : Int) (l0_4 : List (S109)) (a1_0 : Int) (a1_1 : Int) (a1_2 : Int) (a1_3 : Int) (l1_4 : List (S109)) : Option (Bool) := if a0_0 = a1_0 then ((laws_eqMeta.f k a0_1 a0_2 a0_3 l0_4 a1_1 a1_2 a1_3 l1_4).bind fun t270 => (if t270 = true then (some true) else (none))) else (none)
theorem laws_eqReader.mono : ∀ a0 a1 a2 a3 a4 a5 a6 a7 a8 a9 k, LeO (laws_eqReader.f k a0 a1 a2 a3 a4 a5 a6 a7 a8 a9) (laws_eqReader.f (k + 1) a0 a1 a2 a3 a4 a5 a6 a7 a8 a9) := by
 intro a0 a1 a2 a3 a4 a5 a6 a7 a8 a9 k
 unfold laws_eqReader.f
 repeat' first
   | (with_reducible exact laws_eqMeta.mono _ _ _ _ _ _ _ _ _)
   | (with_reducible exact LeO.refl _)
   | (with_reducible exact LeO.none _)
   | (with_reducible refine LeO.ite ?_ ?_)
   | (with_reducible refine LeO.bind ?_ (fun _ => ?_))
   | exact laws_eqMeta.mono _ _ _ _ _ _ _ _ _
theorem laws_eqReader.calls (k : Nat) (a0_0 : Int) (a0_1 : Int) (a0_2 : Int) (a0_3 : Int) (A0_4 : Option Addr) (c0_4 : Nat) (l0_4 : List (S109)) (a1_0 : Int) (a1_1 : Int) (a1_2 : Int) (a1_3 : Int) (A1_4 : Option Addr) (c1_4 : Nat) (l1_4 : List (S109)) (r : Bool) (w : World) (hr0_4 : Kd.C k109 w A0_4 l0_4.length l0_4) (hc0_4 : l0_4.length ≤ c0_4) (hr1_4 : Kd.C k109 w A1_4 l1_4.length l1_4) (hc1_4 : l1_4.length ≤ c1_4) (h : laws_eqReader.f k a0_0 a0_1 a0_2 a0_3 l0_4 a1_0 a1_1 a1_2 a1_3 l1_4 = some r) :
  Calls Try.prog 120 #[.agg #[.int .i64 a0_0, .int .i64 a0_1, .int .i64 a0_2, .int .i64 a0_3, .slice A0_4 l0_4.length c0_4], .agg #[.int .i64 a1_0, .int .i64 a1_1, .int .i64 a1_2, .int .i64 a1_3, .slice A1_4 l1_4.length c1_4]] w fun e w' => e = .returned (.bool r) ∧ Below w.heap.size w w' := by
 have hu99 := Try.underlying99
 have hu44 := Try.underlying44
 have HR0_4 := Aside0.mk hr0_4
 have HC0_4 := Aside0.mk hc0_4
 clear hr0_4 hc0_4
 have HR1_4 := Aside0.mk hr1_4
 have HC1_4 := Aside0.mk hc1_4
 clear hr1_4 hc1_4
 have HB := Aside0.mk (Below.refl w.heap.size w)
 have H : (if a0_0 = a1_0 then ((laws_eqMeta.f k a0_1 a0_2 a0_3 l0_4 a1_1 a1_2 a1_3 l1_4).bind fun t270 => (if t270 = true then (some true) else (none))) else (none)) = some r := h
 clear h
 by_cases c3 : a0_0 = a1_0
 ·rw [if_pos c3] at H
  have c3b0 : (a0_0 == a1_0) = true := beq_iff_eq.mpr c3
  have c3b1 : (a0_0 != a1_0) = false := bne_eq_false_iff_eq.mpr c3
  clear c3
  replace H := Option.bind_eq_some_iff.mp H
  obtain ⟨t270, A40, H⟩ := H
  replace H : (if t270 = true then (some true) else (none)) = some r := H
  have A4 := Aside0.mk A40
  clear A40
  by_cases c5 : t270 = true
  ·subst c5
   have H1 : (some true) = some r := by rw [if_pos rfl] at H; exact H
   clear H
   have H := H1
   clear H1
   obtain rfl := Option.some.inj H
   go_enter Try.func120, Try.ntmps120
   go_wp2_with (first | ((with_reducible refine gate_dst (N := 2) rfl ?_); refine box_event ?hg (N := 2) ?hd (cs := #[.int .i64 a0_0, .int .i64 a0_1, .int .i64 a0_2, .int .i64 a0_3, .slice A0_4 l0_4.length c0_4]) (t := 99) ?hr ?_; (case hd => rfl); (case hg => rfl); (case hr => first | (go_simp; done) | (go_simp; rfl)); intro gb268 hg w6 hbox hb; have n0_ := Aside0.mk (below_step (by repeat (first | (with_reducible first | exact HB.out | apply below_alloc | apply pw_below_drewN | apply below_drew1) | exact HB.out)) hb); have n1_ := Aside0.mk (hbox); have n2_ := Aside0.mk ((by rw [hg]; exact (below_size (by repeat (first | (with_reducible first | exact HB.out | apply below_alloc | apply pw_below_drewN | apply below_drew1) | exact HB.out))) : w.heap.size ≤ gb268)); have n3_ := Aside0.mk ((by rw [hg]; exact (below_size (by repeat (first | (with_reducible first | exact HB.out | apply below_alloc | apply pw_below_drewN | apply below_drew1) | exact HB.out))) : w.heap.size ≤ gb268)); clear HB; have HB := n0_; have BK268 := n1_; have GW268 := n2_; have GE268 := n3_; clear n0_ n1_ n2_ n3_; clear hb hbox hg) | ((with_reducible refine gate_dst (N := 3) rfl ?_); refine box_event ?hg (N := 3) ?hd (cs := #[.int .i64 a1_0, .int .i64 a1_1, .int .i64 a1_2, .int .i64 a1_3, .slice A1_4 l1_4.length c1_4]) (t := 99) ?hr ?_; (case hd => rfl); (case hg => rfl); (case hr => first | (go_simp; done) | (go_simp; rfl)); intro gb269 hg w7 hbox hb; have n0_ := Aside0.mk (blk_below (g := gb268) (o := .cells #[.int .i64 a0_0, .int .i64 a0_1, .int .i64 a0_2, .int .i64 a0_3, .slice A0_4 l0_4.length c0_4] 99 (0, 0)) (by (with_reducible repeat (first | refine blk_drewN ?_ _ | refine blk_drew ?_ | refine blk_alloc ?_ _)); exact BK268.out) hb); have n1_ := Aside0.mk (below_step (by repeat (first | (with_reducible first | exact HB.out | apply below_alloc | apply pw_below_drewN | apply below_drew1 | refine below_set ?_ GE268.out) | exact HB.out)) hb); have n2_ := Aside0.mk (hbox); have n3_ := Aside0.mk ((by rw [hg]; exact (below_size (by repeat (first | (with_reducible first | exact HB.out | apply below_alloc | apply pw_below_drewN | apply below_drew1 | refine below_set ?_ GE268.out) | exact HB.out))) : w.heap.size ≤ gb269)); have n4_ := Aside0.mk ((by rw [hg]; exact (below_size (by repeat (first | (with_reducible first | exact HB.out | apply below_alloc | apply pw_below_drewN | apply below_drew1 | refine below_set ?_ GE268.out) | exact HB.out))) : w.heap.size ≤ gb269)); have n5_ := Aside0.mk ((by rw [hg]; exact Nat.ne_of_lt (blk_lt (g := gb268) (o := .cells #[.int .i64 a0_0, .int .i64 a0_1, .int .i64 a0_2, .int .i64 a0_3, .slice A0_4 l0_4.length c0_4] 99 (0, 0)) (by (with_reducible repeat (first | refine blk_drewN ?_ _ | refine blk_drew ?_ | refine blk_alloc ?_ _)); exact BK268.out)) : gb268 ≠ gb269)); have n6_ := Aside0.mk ((by rw [hg]; exact Nat.ne_of_gt (blk_lt (g := gb268) (o := .cells #[.int .i64 a0_0, .int .i64 a0_1, .int .i64 a0_2, .int .i64 a0_3, .slice A0_4 l0_4.length c0_4] 99 (0, 0)) (by (with_reducible repeat (first | refine blk_drewN ?_ _ | refine blk_drew ?_ | refine blk_alloc ?_ _)); exact BK268.out)) : gb269 ≠ gb268)); clear BK268; clear HB; have BK268 := n0_; have HB := n1_; have BK269 := n2_; have GW269 := n3_; have GE269 := n4_; have NB268_269 := n5_; have NB269_268 := n6_; clear n0_ n1_ n2_ n3_ n4_ n5_ n6_; clear hb hbox hg; have hnb8 := NB268_269.out; have hnc8 := NB269_268.out; have hcz9_0 : w7.cell? ⟨gb268, 0, none⟩ = some (.int .i64 a0_0) := (blk_cell BK268.out 0).trans rfl; have hcz9_1 : w7.cell? ⟨gb268, 1, none⟩ = some (.int .i64 a0_1) := (blk_cell BK268.out 1).trans rfl; have hcz9_2 : w7.cell? ⟨gb268, 2, none⟩ = some (.int .i64 a0_2) := (blk_cell BK268.out 2).trans rfl; have hcz9_3 : w7.cell? ⟨gb268, 3, none⟩ = some (.int .i64 a0_3) := (blk_cell BK268.out 3).trans rfl; have hcz9_4 : w7.cell? ⟨gb268, 4, none⟩ = some (.slice A0_4 l0_4.length c0_4) := (blk_cell BK268.out 4).trans rfl; have hfz9_0 := blk_frozen BK268.out 0; have hfz9_1 := blk_frozen BK268.out 1; have hfz9_2 := blk_frozen BK268.out 2; have hfz9_3 := blk_frozen BK268.out 3; have hfz9_4 := blk_frozen BK268.out 4; have hcz10_0 : w7.cell? ⟨gb269, 0, none⟩ = some (.int .i64 a1_0) := (blk_cell BK269.out 0).trans rfl; have hcz10_1 : w7.cell? ⟨gb269, 1, none⟩ = some (.int .i64 a1_1) := (blk_cell BK269.out 1).trans rfl; have hcz10_2 : w7.cell? ⟨gb269, 2, none⟩ = some (.int .i64 a1_2) := (blk_cell BK269.out 2).trans rfl; have hcz10_3 : w7.cell? ⟨gb269, 3, none⟩ = some (.int .i64 a1_3) := (blk_cell BK269.out 3).trans rfl; have hcz10_4 : w7.cell? ⟨gb269, 4, none⟩ = some (.slice A1_4 l1_4.length c1_4) := (blk_cell BK269.out 4).trans rfl; have hfz10_0 := blk_frozen BK269.out 0; have hfz10_1 := blk_frozen BK269.out 1; have hfz10_2 := blk_frozen BK269.out 2; have hfz10_3 := blk_frozen BK269.out 3; have hfz10_4 := blk_frozen BK269.out 4) | ((with_reducible refine gate_callee (f := 58) rfl ?_); refine goesL_ (some 14) rfl rfl Try.func58 (by kernel_rfl) rfl #[.agg #[.int .i64 a0_1, .int .i64 a0_2, .int .i64 a0_3, .slice A0_4 l0_4.length c0_4], .agg #[.int .i64 a1_1, .int .i64 a1_2, .int .i64 a1_3, .slice A1_4 l1_4.length c1_4]] rfl (by (try simp only [List.map_toArray, List.map_cons, List.map_nil]); first | done | rfl | (simp only [List.length_drop, List.length_take]; rfl)) ?_; (with_reducible refine (laws_eqMeta.calls k a0_1 a0_2 a0_3 _ _ l0_4 a1_1 a1_2 a1_3 _ _ l1_4 true _ ?side1 ?side2 ?side3 ?side4 A4.out).mono ?_); (case side1 => repeat (first | exact (Kd.C_below HR0_4.out HB.out) | (with_reducible refine Kd.C_alloc ?_ _) | (with_reducible refine Kd.C_drewN ?_ _) | (with_reducible refine Kd.C_drew ?_))); (case side2 => exact HC0_4.out); (case side3 => repeat (first | exact (Kd.C_below HR1_4.out HB.out) | (with_reducible refine Kd.C_alloc ?_ _) | (with_reducible refine Kd.C_drewN ?_ _) | (with_reducible refine Kd.C_drew ?_))); (case side4 => exact HC1_4.out); rintro e w11 ⟨rfl, hb⟩; refine ⟨_, rfl, ?_⟩; have n0_ := Aside0.mk (blk_below (g := gb268) (o := .cells #[.int .i64 a0_0, .int .i64 a0_1, .int .i64 a0_2, .int .i64 a0_3, .slice A0_4 l0_4.length c0_4] 99 (0, 0)) (by (with_reducible repeat (first | refine blk_drewN ?_ _ | refine blk_drew ?_ | refine blk_alloc ?_ _)); exact BK268.out) hb); have n1_ := Aside0.mk (blk_below (g := gb269) (o := .cells #[.int .i64 a1_0, .int .i64 a1_1, .int .i64 a1_2, .int .i64 a1_3, .slice A1_4 l1_4.length c1_4] 99 (0, 0)) (by (with_reducible repeat (first | refine blk_drewN ?_ _ | refine blk_drew ?_ | refine blk_alloc ?_ _)); exact BK269.out) hb); have n2_ := Aside0.mk (below_step (by repeat (first | (with_reducible first | exact HB.out | apply below_alloc | apply pw_below_drewN | apply below_drew1 | refine below_set ?_ GE268.out | refine below_set ?_ GE269.out) | exact HB.out)) hb); clear BK268; clear BK269; clear HB; have BK268 := n0_; have BK269 := n1_; have HB := n2_; clear n0_ n1_ n2_; (try clear hb); (try clear hb2); (try clear hk); (try clear hi)))
   go_ret
   exact ⟨by first | rfl | (simp [errW_none, errW_some] <;> rfl) | (simp [*, errW_none, errW_some] <;> rfl), by repeat (first | (with_reducible first | exact HB.out | apply below_alloc | apply pw_below_drewN | apply below_drew1 | refine below_set ?_ GE268.out | refine below_set ?_ GE269.out) | exact HB.out)⟩
  ·replace c5 := Bool.eq_false_iff.mpr c5
   subst c5
   have H1 : (none) = some r := by rw [if_neg (show ¬ (false = true) by decide)] at H; exact H
   clear H
   have H := H1
   clear H1
   exact absurd H (by simp)
 ·rw [if_neg c3] at H
  exact absurd H (by simp)
def laws_eqReaderS.l0 : Nat → List (S99) → List (S99) → Int → Option (Bool)
 | 0, _, _, _ => none
 | k + 1, x0, x1, x5 => if x5 < (x0.length : Int) then (if 0 ≤ x5 then (if x5 < (x1.length : Int) then ((laws_eqReader.f k ((rd_T99 x0 x5).f0) ((rd_T99 x0 x5).f1.f0) ((rd_T99 x0 x5).f1.f1) ((rd_T99 x0 x5).f1.f2) ((rd_T99 x0 x5).f1.f3) ((rd_T99 x1 x5).f0) ((rd_T99 x1 x5).f1.f0) ((rd_T99 x1 x5).f1.f1) ((rd_T99 x1 x5).f1.f2) ((rd_T99 x1 x5).f1.f3)).bind fun t273 => (if t273 = true then (laws_eqReaderS.l0 k x0 x1 (wrap64 (x5 + 1))) else (none))) else (none)) else (none)) else (some true)
def laws_eqReaderS.f (k : Nat) (l0 : List (S99)) (l1 : List (S99)) : Option (Bool) := if (l0.length : Int) = (l1.length : Int) then (laws_eqReaderS.l0 k l0 l1 0) else (none)
theorem laws_eqReaderS.mono_l : ∀ k, (∀ y0 y1 y2, LeO (laws_eqReaderS.l0 k y0 y1 y2) (laws_eqReaderS.l0 (k + 1) y0 y1 y2))
 | 0 => fun _ _ _ r h => by simp [laws_eqReaderS.l0] at h
 | k + 1 => by
  have ih0 := laws_eqReaderS.mono_l k
  ·intro y0 y1 y2
   unfold laws_eqReaderS.l0
   repeat' first
   | (with_reducible exact ih0 _ _ _)
   | (with_reducible exact laws_eqReader.mono _ _ _ _ _ _ _ _ _ _ _)
   | (with_reducible exact LeO.refl _)
   | (with_reducible exact LeO.none _)
   | (with_reducible refine LeO.ite ?_ ?_)
   | (with_reducible refine LeO.bind ?_ (fun _ => ?_))
   | exact ih0 _ _ _
   | exact laws_eqReader.mono _ _ _ _ _ _ _ _ _ _ _
theorem laws_eqReaderS.mono : ∀ a0 a1 k, LeO (laws_eqReaderS.f k a0 a1) (laws_eqReaderS.f (k + 1) a0 a1) := by
 intro a0 a1 k
 have ih0 := laws_eqReaderS.mono_l k
 unfold laws_eqReaderS.f
 repeat' first
   | (with_reducible exact ih0 _ _ _)
   | (with_reducible exact laws_eqReader.mono _ _ _ _ _ _ _ _ _ _ _)
   | (with_reducible exact LeO.refl _)
   | (with_reducible exact LeO.none _)
   | (with_reducible refine LeO.ite ?_ ?_)
   | (with_reducible refine LeO.bind ?_ (fun _ => ?_))
   | exact ih0 _ _ _
   | exact laws_eqReader.mono _ _ _ _ _ _ _ _ _ _ _
def laws_eqReaderS.T6 : Bool × List (List Nat × List Nat) := (true, [([], []), ([], []), ([0, 1], [0, 1]), ([2], [2]), ([], []), ([], []), ([4, 5], [4, 5]), ([6], [6]), ([3, 7], [3, 7]), ([8], [8])])
def laws_eqReaderS.B6 : List Nat := [0, 0, 3, 7, 0, 0, 48, 112, 255, 511]
theorem laws_eqReaderS.tab6 : rtab .any (opsOf Try.f63 6) = laws_eqReaderS.T6 := by kernel_rfl
theorem laws_eqReaderS.bits6 : waitsOk laws_eqReaderS.T6.2 laws_eqReaderS.B6 = true := by kernel_rfl
theorem laws_eqReaderS.calls (k : Nat) (A0 : Option Addr) (c0 : Nat) (l0 : List (S99)) (A1 : Option Addr) (c1 : Nat) (l1 : List (S99)) (r : Bool) (w : World) (hr0 : Kd.C k99 w A0 l0.length l0) (hc0 : l0.length ≤ c0) (hr1 : Kd.C k99 w A1 l1.length l1) (hc1 : l1.length ≤ c1) (h : laws_eqReaderS.f k l0 l1 = some r) :
  Calls Try.prog 63 #[.slice A0 l0.length c0, .slice A1 l1.length c1] w fun e w' => e = .returned (.bool r) ∧ Below w.heap.size w w' := by
 have hu99 := Try.underlying99
 have HR0 := Aside0.mk hr0
 have HC0 := Aside0.mk hc0
 clear hr0 hc0
 have HR1 := Aside0.mk hr1
 have HC1 := Aside0.mk hc1
 clear hr1 hc1
 have HB := Aside0.mk (Below.refl w.heap.size w)
 have H : (if (l0.length : Int) = (l1.length : Int) then (laws_eqReaderS.l0 k l0 l1 0) else (none)) = some r := h
 clear h
 by_cases c3 : (l0.length : Int) = (l1.length : Int)
 ·rw [if_pos c3] at H
  have c3b0 : ((l0.length : Int) == (l1.length : Int)) = true := beq_iff_eq.mpr c3
  have c3b1 : ((l0.length : Int) != (l1.length : Int)) = false := bne_eq_false_iff_eq.mpr c3
  have c3b2 : (l0.length == l1.length) = true := by first | simpa using c3 | (simp at c3 ⊢; omega)
  clear c3
  have H' := Aside0.mk H
  clear H
  go_enter Try.func63, Try.ntmps63
  go_wp2
  go_loopg [5] k (fun kq v5 w' => ∃ (x5_1 : Int), v5 = .int .i64 x5_1 ∧ Aside0 (laws_eqReaderS.l0 kq l0 l1 x5_1 = some r) ∧ Aside0 (kq ≤ k) ∧ Aside0 (Below w.heap.size w w'))
  case atStart => exact ⟨(0), (by first | rfl | (simp; done) | (simp [*]; done)), H', ⟨Nat.le_refl _⟩, ⟨by repeat (first | (with_reducible first | exact HB.out | apply below_alloc | apply pw_below_drewN | apply below_drew1) | exact HB.out)⟩⟩
  case round =>
   clear H'
   try clear c1
   try clear c3
   try clear c3b0
   try clear c3b1
   try clear c3b2
   obtain ⟨x5_1, rfl, HA, HK1, HB⟩ := hrel
   cases gk with
   | zero => exact absurd HA.out (by simp [laws_eqReaderS.l0])
   | succ k1 =>
    have H := HA.out
    clear HA
    simp only [laws_eqReaderS.l0] at H
    by_cases c4 : x5_1 < (l0.length : Int)
    ·rw [if_pos c4] at H
     have c4b0 : decide (x5_1 < (l0.length : Int)) = true := decide_eq_true c4
     clear c4
     by_cases c5 : 0 ≤ x5_1
     ·rw [if_pos c5] at H
      have c5b0 : decide (0 ≤ x5_1) = true := decide_eq_true c5
      clear c5
      by_cases c6 : x5_1 < (l1.length : Int)
      ·rw [if_pos c6] at H
       have c6b0 : decide (x5_1 < (l1.length : Int)) = true := decide_eq_true c6
       clear c6
       replace H := Option.bind_eq_some_iff.mp H
       obtain ⟨t273, A70, H⟩ := H
       replace H : (if t273 = true then (laws_eqReaderS.l0 k1 l0 l1 (wrap64 (x5_1 + 1))) else (none)) = some r := H
       have A7 := Aside0.mk A70
       clear A70
       by_cases c8 : t273 = true
       ·subst c8
        have H1 : (laws_eqReaderS.l0 k1 l0 l1 (wrap64 (x5_1 + 1))) = some r := by rw [if_pos rfl] at H; exact H
        clear H
        have H := H1
        clear H1
        have H' := Aside0.mk H
        clear H
        try go_wp2
        have n0_ := Aside0.mk (below_drew1 HB.out)
        clear HB
        have HB := n0_
        clear n0_
        have p271 : 0 ≤ (x5_1 : Int) := of_decide_eq_true (by with_reducible assumption)
        have q271 : x5_1 < (l0.length : Int) := of_decide_eq_true (by with_reducible assumption)
        obtain ⟨ad271, A271_4, c271_4, e271, hx271_0, hx271_1, hx271_2, hx271_3, hx271_4, hl271_4, hi271_4⟩ := at_T99 HR0.out x5_1 p271 q271
        have hw271_4 := hx271_4
        have hw271_3 := hx271_3
        have hw271_2 := hx271_2
        have hw271_1 := hx271_1
        have hw271_0 := hx271_0
        cases e271
        replace hx271_0 := (HB.out.cell (World.block_lt_of_cell? w _ hx271_0)).trans hx271_0
        replace hx271_1 := (HB.out.cell (World.block_lt_of_cell? w _ hx271_1)).trans hx271_1
        replace hx271_2 := (HB.out.cell (World.block_lt_of_cell? w _ hx271_2)).trans hx271_2
        replace hx271_3 := (HB.out.cell (World.block_lt_of_cell? w _ hx271_3)).trans hx271_3
        replace hx271_4 := (HB.out.cell (World.block_lt_of_cell? w _ hx271_4)).trans hx271_4
        have HR271_4 := Aside0.mk hi271_4
        have HC271_4 := Aside0.mk hl271_4
        clear hi271_4 hl271_4
        replace p271 := eq_true p271
        replace q271 := eq_true q271
        have p272 : 0 ≤ (x5_1 : Int) := of_decide_eq_true (by with_reducible assumption)
        have q272 : x5_1 < (l1.length : Int) := of_decide_eq_true (by with_reducible assumption)
        obtain ⟨ad272, A272_4, c272_4, e272, hx272_0, hx272_1, hx272_2, hx272_3, hx272_4, hl272_4, hi272_4⟩ := at_T99 HR1.out x5_1 p272 q272
        have hw272_4 := hx272_4
        have hw272_3 := hx272_3
        have hw272_2 := hx272_2
        have hw272_1 := hx272_1
        have hw272_0 := hx272_0
        cases e272
        replace hx272_0 := (HB.out.cell (World.block_lt_of_cell? w _ hx272_0)).trans hx272_0
        replace hx272_1 := (HB.out.cell (World.block_lt_of_cell? w _ hx272_1)).trans hx272_1
        replace hx272_2 := (HB.out.cell (World.block_lt_of_cell? w _ hx272_2)).trans hx272_2
        replace hx272_3 := (HB.out.cell (World.block_lt_of_cell? w _ hx272_3)).trans hx272_3
        replace hx272_4 := (HB.out.cell (World.block_lt_of_cell? w _ hx272_4)).trans hx272_4
        have HR272_4 := Aside0.mk hi272_4
        have HC272_4 := Aside0.mk hl272_4
        clear hi272_4 hl272_4
        replace p272 := eq_true p272
        replace q272 := eq_true q272
        refine start_ (n := 10) (S := fun w' => w'.cell? (ad271.add ((x5_1).toNat * 5)) = some (.int .i64 ((rd_T99 l0 x5_1).f0)) ∧ w'.cell? ⟨(ad271.add ((x5_1).toNat * 5)).block, (ad271.add ((x5_1).toNat * 5)).off + 1, none⟩ = some (.int .i64 ((rd_T99 l0 x5_1).f1.f0)) ∧ w'.cell? ⟨(ad271.add ((x5_1).toNat * 5)).block, (ad271.add ((x5_1).toNat * 5)).off + 2, none⟩ = some (.int .i64 ((rd_T99 l0 x5_1).f1.f1)) ∧ w'.cell? ⟨(ad271.add ((x5_1).toNat * 5)).block, (ad271.add ((x5_1).toNat * 5)).off + 3, none⟩ = some (.int .i64 ((rd_T99 l0 x5_1).f1.f2)) ∧ w'.cell? ⟨(ad271.add ((x5_1).toNat * 5)).block, (ad271.add ((x5_1).toNat * 5)).off + 4, none⟩ = some (.slice A271_4 ((rd_T99 l0 x5_1).f1.f3).length c271_4) ∧ w'.cell? (ad272.add ((x5_1).toNat * 5)) = some (.int .i64 ((rd_T99 l1 x5_1).f0)) ∧ w'.cell? ⟨(ad272.add ((x5_1).toNat * 5)).block, (ad272.add ((x5_1).toNat * 5)).off + 1, none⟩ = some (.int .i64 ((rd_T99 l1 x5_1).f1.f0)) ∧ w'.cell? ⟨(ad272.add ((x5_1).toNat * 5)).block, (ad272.add ((x5_1).toNat * 5)).off + 2, none⟩ = some (.int .i64 ((rd_T99 l1 x5_1).f1.f1)) ∧ w'.cell? ⟨(ad272.add ((x5_1).toNat * 5)).block, (ad272.add ((x5_1).toNat * 5)).off + 3, none⟩ = some (.int .i64 ((rd_T99 l1 x5_1).f1.f2)) ∧ w'.cell? ⟨(ad272.add ((x5_1).toNat * 5)).block, (ad272.add ((x5_1).toNat * 5)).off + 4, none⟩ = some (.slice A272_4 ((rd_T99 l1 x5_1).f1.f3).length c272_4)) (ds := []) #[false, false, false, false, false, false, false, false, false, false] (by kernel_rfl) rfl rfl ⟨((HB.out.cell (World.block_lt_of_cell? w _ hw271_0)).trans hw271_0), ((HB.out.cell (World.block_lt_of_cell? w _ hw271_1)).trans hw271_1), ((HB.out.cell (World.block_lt_of_cell? w _ hw271_2)).trans hw271_2), ((HB.out.cell (World.block_lt_of_cell? w _ hw271_3)).trans hw271_3), ((HB.out.cell (World.block_lt_of_cell? w _ hw271_4)).trans hw271_4), ((HB.out.cell (World.block_lt_of_cell? w _ hw272_0)).trans hw272_0), ((HB.out.cell (World.block_lt_of_cell? w _ hw272_1)).trans hw272_1), ((HB.out.cell (World.block_lt_of_cell? w _ hw272_2)).trans hw272_2), ((HB.out.cell (World.block_lt_of_cell? w _ hw272_3)).trans hw272_3), ((HB.out.cell (World.block_lt_of_cell? w _ hw272_4)).trans hw272_4)⟩ (fun hHeld => ?_); refine with_tabW laws_eqReaderS.tab6 laws_eqReaderS.bits6 (fun HT_ HW_ => ?_)
        generalize wr.drew = w9 at HB HR271_4 HR272_4 hx271_0 hx271_1 hx271_2 hx271_3 hx271_4 hx272_0 hx272_1 hx272_2 hx272_3 hx272_4 hHeld ⊢
        refine pure_ (i := 0) (N := some 17) (v := ?_) (a' := ?_) #[true, false, false, false, false, false, false, false, false, false] rfl rfl (any_of HT_.out (by kernel_rfl)) (fun _ _ _ h => h) (Or.inl ⟨by rfl, ?_⟩) ?_ ?_
        rotate_left
        ·intro w'
         go_simp
         with_reducible rfl
        rotate_left
        ·simp only [Act.put, List.setIfInBounds_toArray, List.set_cons_zero, List.set_cons_succ, i64_w, i32_w]
         rfl
        refine pure_ (i := 1) (N := some 18) (v := ?_) (a' := ?_) #[true, true, false, false, false, false, false, false, false, false] rfl rfl (any_of HT_.out (by kernel_rfl)) (fun _ _ _ h => h) (Or.inl ⟨by rfl, ?_⟩) ?_ ?_
        rotate_left
        ·intro w'
         go_simp
         with_reducible rfl
        rotate_left
        ·simp only [Act.put, List.setIfInBounds_toArray, List.set_cons_zero, List.set_cons_succ, i64_w, i32_w]
         rfl
        refine pure_ (i := 2) (N := some 19) (v := ?_) (a' := ?_) #[true, true, true, false, false, false, false, false, false, false] rfl rfl (any_of HT_.out (by kernel_rfl)) (fun _ _ _ h => h) (Or.inl ⟨by rfl, ?_⟩) ?_ ?_
        rotate_left
        ·intro w'
         go_simp
         with_reducible rfl
        rotate_left
        ·simp only [Act.put, List.setIfInBounds_toArray, List.set_cons_zero, List.set_cons_succ, i64_w, i32_w]
         rfl
        refine pure_ (i := 4) (N := some 21) (v := ?_) (a' := ?_) #[true, true, true, false, true, false, false, false, false, false] rfl rfl (any_of HT_.out (by kernel_rfl)) (fun _ _ _ h => h) (Or.inl ⟨by rfl, ?_⟩) ?_ ?_
        rotate_left
        ·intro w'
         go_simp
         with_reducible rfl
        rotate_left
        ·simp only [Act.put, List.setIfInBounds_toArray, List.set_cons_zero, List.set_cons_succ, i64_w, i32_w]
         rfl
        refine pure_ (i := 5) (N := some 22) (v := ?_) (a' := ?_) #[true, true, true, false, true, true, false, false, false, false] rfl rfl (any_of HT_.out (by kernel_rfl)) (fun _ _ _ h => h) (Or.inl ⟨by rfl, ?_⟩) ?_ ?_
        rotate_left
        ·intro w'
         go_simp
         with_reducible rfl
        rotate_left
        ·simp only [Act.put, List.setIfInBounds_toArray, List.set_cons_zero, List.set_cons_succ, i64_w, i32_w]
         rfl
        refine pure_ (i := 6) (N := some 23) (v := ?_) (a' := ?_) #[true, true, true, false, true, true, true, false, false, false] rfl rfl (any_of HT_.out (by kernel_rfl)) (fun _ _ _ h => h) (Or.inl ⟨by rfl, ?_⟩) ?_ ?_
        rotate_left
        ·intro w'
         go_simp
         with_reducible rfl
        rotate_left
        ·simp only [Act.put, List.setIfInBounds_toArray, List.set_cons_zero, List.set_cons_succ, i64_w, i32_w]
         rfl
        refine take_ (i := 3) (N := some 20) (v := ?_) (a' := ?_) #[true, true, true, true, true, true, true, false, false, false] rfl rfl (take_ofW HT_.out HW_.out (by kernel_rfl)) (fun _ _ _ h => h) (Or.inl ⟨by rfl, ?_⟩) hHeld ?_ ?_
        rotate_left
        ·rintro w' ⟨s0, s1, s2, s3, s4, s5, s6, s7, s8, s9⟩
         go_simp
         with_reducible rfl
        rotate_left
        ·simp only [Act.put, List.setIfInBounds_toArray, List.set_cons_zero, List.set_cons_succ, i64_w, i32_w]
         rfl
        refine take_ (i := 7) (N := some 24) (v := ?_) (a' := ?_) #[true, true, true, true, true, true, true, true, false, false] rfl rfl (take_ofW HT_.out HW_.out (by kernel_rfl)) (fun _ _ _ h => h) (Or.inl ⟨by rfl, ?_⟩) hHeld ?_ ?_
        rotate_left
        ·rintro w' ⟨s0, s1, s2, s3, s4, s5, s6, s7, s8, s9⟩
         go_simp
         with_reducible rfl
        rotate_left
        ·simp only [Act.put, List.setIfInBounds_toArray, List.set_cons_zero, List.set_cons_succ, i64_w, i32_w]
         rfl
        refine one_ (i := 8) (N := some 25) #[true, true, true, true, true, true, true, true, true, false] rfl rfl (one_of HT_.out (by kernel_rfl)) (by decide) (fun K hK => ?_)
        refine goes_ Try.func120 (by kernel_rfl) rfl #[.agg #[.int .i64 ((rd_T99 l0 x5_1).f0), .int .i64 ((rd_T99 l0 x5_1).f1.f0), .int .i64 ((rd_T99 l0 x5_1).f1.f1), .int .i64 ((rd_T99 l0 x5_1).f1.f2), .slice A271_4 ((rd_T99 l0 x5_1).f1.f3).length c271_4], .agg #[.int .i64 ((rd_T99 l1 x5_1).f0), .int .i64 ((rd_T99 l1 x5_1).f1.f0), .int .i64 ((rd_T99 l1 x5_1).f1.f1), .int .i64 ((rd_T99 l1 x5_1).f1.f2), .slice A272_4 ((rd_T99 l1 x5_1).f1.f3).length c272_4]] (by rfl) rfl rfl (by (try simp only [List.map_toArray, List.map_cons, List.map_nil]); first | done | rfl | (simp only [List.length_drop, List.length_take]; rfl)) ?_
        with_reducible refine (laws_eqReader.calls k1 ((rd_T99 l0 x5_1).f0) ((rd_T99 l0 x5_1).f1.f0) ((rd_T99 l0 x5_1).f1.f1) ((rd_T99 l0 x5_1).f1.f2) _ _ ((rd_T99 l0 x5_1).f1.f3) ((rd_T99 l1 x5_1).f0) ((rd_T99 l1 x5_1).f1.f0) ((rd_T99 l1 x5_1).f1.f1) ((rd_T99 l1 x5_1).f1.f2) _ _ ((rd_T99 l1 x5_1).f1.f3) true _ ?side1 ?side2 ?side3 ?side4 A7.out).mono ?_
        (case side1 => repeat (first | exact (Kd.C_below HR271_4.out HB.out) | (with_reducible refine Kd.C_alloc ?_ _) | (with_reducible refine Kd.C_drewN ?_ _) | (with_reducible refine Kd.C_drew ?_)))
        (case side2 => exact HC271_4.out)
        (case side3 => repeat (first | exact (Kd.C_below HR272_4.out HB.out) | (with_reducible refine Kd.C_alloc ?_ _) | (with_reducible refine Kd.C_drewN ?_ _) | (with_reducible refine Kd.C_drew ?_)))
        (case side4 => exact HC272_4.out)
        rintro e w10 ⟨rfl, hb⟩
        refine ⟨_, rfl, ?_⟩
        have n0_ := Aside0.mk (below_step (by repeat (first | (with_reducible first | exact HB.out | apply below_alloc | apply pw_below_drewN | apply below_drew1) | exact HB.out)) hb)
        clear HB
        have HB := n0_
        clear n0_
        (try clear hb)
        (try clear hb2)
        (try clear hk)
        (try clear hi)
        refine hK.out _ _ ⟨((HB.out.cell (World.block_lt_of_cell? w _ hw271_0)).trans hw271_0), ((HB.out.cell (World.block_lt_of_cell? w _ hw271_1)).trans hw271_1), ((HB.out.cell (World.block_lt_of_cell? w _ hw271_2)).trans hw271_2), ((HB.out.cell (World.block_lt_of_cell? w _ hw271_3)).trans hw271_3), ((HB.out.cell (World.block_lt_of_cell? w _ hw271_4)).trans hw271_4), ((HB.out.cell (World.block_lt_of_cell? w _ hw272_0)).trans hw272_0), ((HB.out.cell (World.block_lt_of_cell? w _ hw272_1)).trans hw272_1), ((HB.out.cell (World.block_lt_of_cell? w _ hw272_2)).trans hw272_2), ((HB.out.cell (World.block_lt_of_cell? w _ hw272_3)).trans hw272_3), ((HB.out.cell (World.block_lt_of_cell? w _ hw272_4)).trans hw272_4)⟩ (fun hHeld => ?_)
        clear hK K
        refine norm_ (a' := ?_) ?_ ?_
        rotate_left
        ·show Act.put _ (some 25) _ = _
         simp only [Act.put, List.setIfInBounds_toArray, List.set_cons_zero, List.set_cons_succ, i64_w, i32_w]
         rfl
        refine pure_ (i := 9) (N := some 26) (v := ?_) (a' := ?_) #[true, true, true, true, true, true, true, true, true, true] rfl rfl (any_of HT_.out (by kernel_rfl)) (fun _ _ _ h => h) (Or.inl ⟨by rfl, ?_⟩) ?_ ?_
        rotate_left
        ·intro w'
         go_simp
         with_reducible rfl
        rotate_left
        ·simp only [Act.put, List.setIfInBounds_toArray, List.set_cons_zero, List.set_cons_succ, i64_w, i32_w]
         rfl
        refine done_ (done_of HT_.out (by kernel_rfl)) ?_
        try go_wp2
        go_roundg k1
        case measure => have := HK1.out; omega
        case rel => exact ⟨(wrap64 (x5_1 + 1)), (by first | rfl | (simp; done) | (simp [*]; done)), H', ⟨by have := HK1.out; omega⟩, ⟨by repeat (first | (with_reducible first | exact HB.out | apply below_alloc | apply pw_below_drewN | apply below_drew1) | exact HB.out)⟩⟩
       ·replace c8 := Bool.eq_false_iff.mpr c8
        subst c8
        have H1 : (none) = some r := by rw [if_neg (show ¬ (false = true) by decide)] at H; exact H
        clear H
        have H := H1
        clear H1
        exact absurd H (by simp)
      ·rw [if_neg c6] at H
       exact absurd H (by simp)
     ·rw [if_neg c5] at H
      exact absurd H (by simp)
    ·rw [if_neg c4] at H
     have c4b0 : decide (x5_1 < (l0.length : Int)) = false := decide_eq_false c4
     clear c4
     obtain rfl := Option.some.inj H
     go_wp2
     go_ret
     exact ⟨by first | rfl | (simp [errW_none, errW_some] <;> rfl) | (simp [*, errW_none, errW_some] <;> rfl), by repeat (first | (with_reducible first | exact HB.out | apply below_alloc | apply pw_below_drewN | apply below_drew1) | exact HB.out)⟩
 ·rw [if_neg c3] at H
  exact absurd H (by simp)
def laws_eqWork.f (k : Nat) (l0_0 : List ByteArray) (l0_1 : List (S189)) (a0_2 : Int) (l0_3 : List Int) (l0_4 : List Int) (l0_5 : List Int) (l1_0 : List ByteArray) (l1_1 : List (S189)) (a1_2 : Int) (l1_3 : List Int) (l1_4 : List Int) (l1_5 : List Int) : Option (Bool) := (laws_eqDisk.f k l0_0 l0_1 l1_0 l1_1).bind fun t276 => (if t276 = true then (if a0_2 = a1_2 then ((laws_eqIntS.f k l0_3 l1_3).bind fun t277 => (if t277 = true then ((laws_eqIntS.f k l0_4 l1_4).bind fun t278 => (if t278 = true then ((laws_eqIntS.f k l0_5 l1_5).bind fun t279 => (if t279 = true then (some true) else (none))) else (none))) else (none))) else (none)) else (none))
theorem laws_eqWork.mono : ∀ a0 a1 a2 a3 a4 a5 a6 a7 a8 a9 a10 a11 k, LeO (laws_eqWork.f k a0 a1 a2 a3 a4 a5 a6 a7 a8 a9 a10 a11) (laws_eqWork.f (k + 1) a0 a1 a2 a3 a4 a5 a6 a7 a8 a9 a10 a11) := by
 intro a0 a1 a2 a3 a4 a5 a6 a7 a8 a9 a10 a11 k
 unfold laws_eqWork.f
 repeat' first
   | (with_reducible exact laws_eqDisk.mono _ _ _ _ _)
   | (with_reducible exact laws_eqIntS.mono _ _ _)
   | (with_reducible exact LeO.refl _)
   | (with_reducible exact LeO.none _)
   | (with_reducible refine LeO.ite ?_ ?_)
   | (with_reducible refine LeO.bind ?_ (fun _ => ?_))
   | exact laws_eqDisk.mono _ _ _ _ _
   | exact laws_eqIntS.mono _ _ _
theorem laws_eqWork.calls (k : Nat) (A0_0 : Option Addr) (c0_0 : Nat) (l0_0 : List ByteArray) (A0_1 : Option Addr) (c0_1 : Nat) (l0_1 : List (S189)) (a0_2 : Int) (A0_3 : Option Addr) (c0_3 : Nat) (l0_3 : List Int) (A0_4 : Option Addr) (c0_4 : Nat) (l0_4 : List Int) (A0_5 : Option Addr) (c0_5 : Nat) (l0_5 : List Int) (A1_0 : Option Addr) (c1_0 : Nat) (l1_0 : List ByteArray) (A1_1 : Option Addr) (c1_1 : Nat) (l1_1 : List (S189)) (a1_2 : Int) (A1_3 : Option Addr) (c1_3 : Nat) (l1_3 : List Int) (A1_4 : Option Addr) (c1_4 : Nat) (l1_4 : List Int) (A1_5 : Option Addr) (c1_5 : Nat) (l1_5 : List Int) (r : Bool) (w : World) (hr0_0 : Kd.C Kd.string w A0_0 l0_0.length l0_0) (hc0_0 : l0_0.length ≤ c0_0) (hr0_1 : Kd.C k189 w A0_1 l0_1.length l0_1) (hc0_1 : l0_1.length ≤ c0_1) (hr0_3 : Kd.C (Kd.int .i64) w A0_3 l0_3.length l0_3) (hc0_3 : l0_3.length ≤ c0_3) (hr0_4 : Kd.C (Kd.int .i64) w A0_4 l0_4.length l0_4) (hc0_4 : l0_4.length ≤ c0_4) (hr0_5 : Kd.C (Kd.int .i64) w A0_5 l0_5.length l0_5) (hc0_5 : l0_5.length ≤ c0_5) (hr1_0 : Kd.C Kd.string w A1_0 l1_0.length l1_0) (hc1_0 : l1_0.length ≤ c1_0) (hr1_1 : Kd.C k189 w A1_1 l1_1.length l1_1) (hc1_1 : l1_1.length ≤ c1_1) (hr1_3 : Kd.C (Kd.int .i64) w A1_3 l1_3.length l1_3) (hc1_3 : l1_3.length ≤ c1_3) (hr1_4 : Kd.C (Kd.int .i64) w A1_4 l1_4.length l1_4) (hc1_4 : l1_4.length ≤ c1_4) (hr1_5 : Kd.C (Kd.int .i64) w A1_5 l1_5.length l1_5) (hc1_5 : l1_5.length ≤ c1_5) (h : laws_eqWork.f k l0_0 l0_1 a0_2 l0_3 l0_4 l0_5 l1_0 l1_1 a1_2 l1_3 l1_4 l1_5 = some r) :
  Calls Try.prog 121 #[.agg #[.slice A0_0 l0_0.length c0_0, .slice A0_1 l0_1.length c0_1, .int .i64 a0_2, .slice A0_3 l0_3.length c0_3, .slice A0_4 l0_4.length c0_4, .slice A0_5 l0_5.length c0_5], .agg #[.slice A1_0 l1_0.length c1_0, .slice A1_1 l1_1.length c1_1, .int .i64 a1_2, .slice A1_3 l1_3.length c1_3, .slice A1_4 l1_4.length c1_4, .slice A1_5 l1_5.length c1_5]] w fun e w' => e = .returned (.bool r) ∧ Below w.heap.size w w' := by
 have hu47 := Try.underlying47
 have hu41 := Try.underlying41
 have HR0_0 := Aside0.mk hr0_0
 have HC0_0 := Aside0.mk hc0_0
 clear hr0_0 hc0_0
 have HR0_1 := Aside0.mk hr0_1
 have HC0_1 := Aside0.mk hc0_1
 clear hr0_1 hc0_1
 have HR0_3 := Aside0.mk hr0_3
 have HC0_3 := Aside0.mk hc0_3
 clear hr0_3 hc0_3
 have HR0_4 := Aside0.mk hr0_4
 have HC0_4 := Aside0.mk hc0_4
 clear hr0_4 hc0_4
 have HR0_5 := Aside0.mk hr0_5
 have HC0_5 := Aside0.mk hc0_5
 clear hr0_5 hc0_5
 have HR1_0 := Aside0.mk hr1_0
 have HC1_0 := Aside0.mk hc1_0
 clear hr1_0 hc1_0
 have HR1_1 := Aside0.mk hr1_1
 have HC1_1 := Aside0.mk hc1_1
 clear hr1_1 hc1_1
 have HR1_3 := Aside0.mk hr1_3
 have HC1_3 := Aside0.mk hc1_3
 clear hr1_3 hc1_3
 have HR1_4 := Aside0.mk hr1_4
 have HC1_4 := Aside0.mk hc1_4
 clear hr1_4 hc1_4
 have HR1_5 := Aside0.mk hr1_5
 have HC1_5 := Aside0.mk hc1_5
 clear hr1_5 hc1_5
 have HB := Aside0.mk (Below.refl w.heap.size w)
 have H : ((laws_eqDisk.f k l0_0 l0_1 l1_0 l1_1).bind fun t276 => (if t276 = true then (if a0_2 = a1_2 then ((laws_eqIntS.f k l0_3 l1_3).bind fun t277 => (if t277 = true then ((laws_eqIntS.f k l0_4 l1_4).bind fun t278 => (if t278 = true then ((laws_eqIntS.f k l0_5 l1_5).bind fun t279 => (if t279 = true then (some true) else (none))) else (none))) else (none))) else (none)) else (none))) = some r := h
 clear h
 replace H := Option.bind_eq_some_iff.mp H
 obtain ⟨t276, A30, H⟩ := H
 replace H : (if t276 = true then (if a0_2 = a1_2 then ((laws_eqIntS.f k l0_3 l1_3).bind fun t277 => (if t277 = true then ((laws_eqIntS.f k l0_4 l1_4).bind fun t278 => (if t278 = true then ((laws_eqIntS.f k l0_5 l1_5).bind fun t279 => (if t279 = true then (some true) else (none))) else (none))) else (none))) else (none)) else (none)) = some r := H
 have A3 := Aside0.mk A30
 clear A30
 by_cases c4 : t276 = true
 ·subst c4
  have H1 : (if a0_2 = a1_2 then ((laws_eqIntS.f k l0_3 l1_3).bind fun t277 => (if t277 = true then ((laws_eqIntS.f k l0_4 l1_4).bind fun t278 => (if t278 = true then ((laws_eqIntS.f k l0_5 l1_5).bind fun t279 => (if t279 = true then (some true) else (none))) else (none))) else (none))) else (none)) = some r := by rw [if_pos rfl] at H; exact H
  clear H
  have H := H1
  clear H1
  by_cases c5 : a0_2 = a1_2
  ·rw [if_pos c5] at H
   have c5b0 : (a0_2 == a1_2) = true := beq_iff_eq.mpr c5
   have c5b1 : (a0_2 != a1_2) = false := bne_eq_false_iff_eq.mpr c5
   clear c5
   replace H := Option.bind_eq_some_iff.mp H
   obtain ⟨t277, A60, H⟩ := H
   replace H : (if t277 = true then ((laws_eqIntS.f k l0_4 l1_4).bind fun t278 => (if t278 = true then ((laws_eqIntS.f k l0_5 l1_5).bind fun t279 => (if t279 = true then (some true) else (none))) else (none))) else (none)) = some r := H
   have A6 := Aside0.mk A60
   clear A60
   by_cases c7 : t277 = true
   ·subst c7
    have H1 : ((laws_eqIntS.f k l0_4 l1_4).bind fun t278 => (if t278 = true then ((laws_eqIntS.f k l0_5 l1_5).bind fun t279 => (if t279 = true then (some true) else (none))) else (none))) = some r := by rw [if_pos rfl] at H; exact H
    clear H
    have H := H1
    clear H1
    replace H := Option.bind_eq_some_iff.mp H
    obtain ⟨t278, A80, H⟩ := H
    replace H : (if t278 = true then ((laws_eqIntS.f k l0_5 l1_5).bind fun t279 => (if t279 = true then (some true) else (none))) else (none)) = some r := H
    have A8 := Aside0.mk A80
    clear A80
    by_cases c9 : t278 = true
    ·subst c9
     have H1 : ((laws_eqIntS.f k l0_5 l1_5).bind fun t279 => (if t279 = true then (some true) else (none))) = some r := by rw [if_pos rfl] at H; exact H
     clear H
     have H := H1
     clear H1
     replace H := Option.bind_eq_some_iff.mp H
     obtain ⟨t279, A100, H⟩ := H
     replace H : (if t279 = true then (some true) else (none)) = some r := H
     have A10 := Aside0.mk A100
     clear A100
     by_cases c11 : t279 = true
     ·subst c11
      have H1 : (some true) = some r := by rw [if_pos rfl] at H; exact H
      clear H
      have H := H1
      clear H1
      obtain rfl := Option.some.inj H
      go_enter Try.func121, Try.ntmps121
      go_wp2_with (first | ((with_reducible refine gate_dst (N := 2) rfl ?_); refine box_event ?hg (N := 2) ?hd (cs := #[.slice A0_0 l0_0.length c0_0, .slice A0_1 l0_1.length c0_1, .int .i64 a0_2, .slice A0_3 l0_3.length c0_3, .slice A0_4 l0_4.length c0_4, .slice A0_5 l0_5.length c0_5]) (t := 47) ?hr ?_; (case hd => rfl); (case hg => rfl); (case hr => first | (go_simp; done) | (go_simp; rfl)); intro gb274 hg w12 hbox hb; have n0_ := Aside0.mk (below_step (by repeat (first | (with_reducible first | exact HB.out | apply below_alloc | apply pw_below_drewN | apply below_drew1) | exact HB.out)) hb); have n1_ := Aside0.mk (hbox); have n2_ := Aside0.mk ((by rw [hg]; exact (below_size (by repeat (first | (with_reducible first | exact HB.out | apply below_alloc | apply pw_below_drewN | apply below_drew1) | exact HB.out))) : w.heap.size ≤ gb274)); have n3_ := Aside0.mk ((by rw [hg]; exact (below_size (by repeat (first | (with_reducible first | exact HB.out | apply below_alloc | apply pw_below_drewN | apply below_drew1) | exact HB.out))) : w.heap.size ≤ gb274)); clear HB; have HB := n0_; have BK274 := n1_; have GW274 := n2_; have GE274 := n3_; clear n0_ n1_ n2_ n3_; clear hb hbox hg) | ((with_reducible refine gate_dst (N := 3) rfl ?_); refine box_event ?hg (N := 3) ?hd (cs := #[.slice A1_0 l1_0.length c1_0, .slice A1_1 l1_1.length c1_1, .int .i64 a1_2, .slice A1_3 l1_3.length c1_3, .slice A1_4 l1_4.length c1_4, .slice A1_5 l1_5.length c1_5]) (t := 47) ?hr ?_; (case hd => rfl); (case hg => rfl); (case hr => first | (go_simp; done) | (go_simp; rfl)); intro gb275 hg w13 hbox hb; have n0_ := Aside0.mk (blk_below (g := gb274) (o := .cells #[.slice A0_0 l0_0.length c0_0, .slice A0_1 l0_1.length c0_1, .int .i64 a0_2, .slice A0_3 l0_3.length c0_3, .slice A0_4 l0_4.length c0_4, .slice A0_5 l0_5.length c0_5] 47 (0, 0)) (by (with_reducible repeat (first | refine blk_drewN ?_ _ | refine blk_drew ?_ | refine blk_alloc ?_ _)); exact BK274.out) hb); have n1_ := Aside0.mk (below_step (by repeat (first | (with_reducible first | exact HB.out | apply below_alloc | apply pw_below_drewN | apply below_drew1 | refine below_set ?_ GE274.out) | exact HB.out)) hb); have n2_ := Aside0.mk (hbox); have n3_ := Aside0.mk ((by rw [hg]; exact (below_size (by repeat (first | (with_reducible first | exact HB.out | apply below_alloc | apply pw_below_drewN | apply below_drew1 | refine below_set ?_ GE274.out) | exact HB.out))) : w.heap.size ≤ gb275)); have n4_ := Aside0.mk ((by rw [hg]; exact (below_size (by repeat (first | (with_reducible first | exact HB.out | apply below_alloc | apply pw_below_drewN | apply below_drew1 | refine below_set ?_ GE274.out) | exact HB.out))) : w.heap.size ≤ gb275)); have n5_ := Aside0.mk ((by rw [hg]; exact Nat.ne_of_lt (blk_lt (g := gb274) (o := .cells #[.slice A0_0 l0_0.length c0_0, .slice A0_1 l0_1.length c0_1, .int .i64 a0_2, .slice A0_3 l0_3.length c0_3, .slice A0_4 l0_4.length c0_4, .slice A0_5 l0_5.length c0_5] 47 (0, 0)) (by (with_reducible repeat (first | refine blk_drewN ?_ _ | refine blk_drew ?_ | refine blk_alloc ?_ _)); exact BK274.out)) : gb274 ≠ gb275)); have n6_ := Aside0.mk ((by rw [hg]; exact Nat.ne_of_gt (blk_lt (g := gb274) (o := .cells #[.slice A0_0 l0_0.length c0_0, .slice A0_1 l0_1.length c0_1, .int .i64 a0_2, .slice A0_3 l0_3.length c0_3, .slice A0_4 l0_4.length c0_4, .slice A0_5 l0_5.length c0_5] 47 (0, 0)) (by (with_reducible repeat (first | refine blk_drewN ?_ _ | refine blk_drew ?_ | refine blk_alloc ?_ _)); exact BK274.out)) : gb275 ≠ gb274)); clear BK274; clear HB; have BK274 := n0_; have HB := n1_; have BK275 := n2_; have GW275 := n3_; have GE275 := n4_; have NB274_275 := n5_; have NB275_274 := n6_; clear n0_ n1_ n2_ n3_ n4_ n5_ n6_; clear hb hbox hg; have hnb14 := NB274_275.out; have hnc14 := NB275_274.out; have hcz15_0 : w13.cell? ⟨gb274, 0, none⟩ = some (.slice A0_0 l0_0.length c0_0) := (blk_cell BK274.out 0).trans rfl; have hcz15_1 : w13.cell? ⟨gb274, 1, none⟩ = some (.slice A0_1 l0_1.length c0_1) := (blk_cell BK274.out 1).trans rfl; have hcz15_2 : w13.cell? ⟨gb274, 2, none⟩ = some (.int .i64 a0_2) := (blk_cell BK274.out 2).trans rfl; have hcz15_3 : w13.cell? ⟨gb274, 3, none⟩ = some (.slice A0_3 l0_3.length c0_3) := (blk_cell BK274.out 3).trans rfl; have hcz15_4 : w13.cell? ⟨gb274, 4, none⟩ = some (.slice A0_4 l0_4.length c0_4) := (blk_cell BK274.out 4).trans rfl; have hcz15_5 : w13.cell? ⟨gb274, 5, none⟩ = some (.slice A0_5 l0_5.length c0_5) := (blk_cell BK274.out 5).trans rfl; have hfz15_0 := blk_frozen BK274.out 0; have hfz15_1 := blk_frozen BK274.out 1; have hfz15_2 := blk_frozen BK274.out 2; have hfz15_3 := blk_frozen BK274.out 3; have hfz15_4 := blk_frozen BK274.out 4; have hfz15_5 := blk_frozen BK274.out 5; have hcz16_0 : w13.cell? ⟨gb275, 0, none⟩ = some (.slice A1_0 l1_0.length c1_0) := (blk_cell BK275.out 0).trans rfl; have hcz16_1 : w13.cell? ⟨gb275, 1, none⟩ = some (.slice A1_1 l1_1.length c1_1) := (blk_cell BK275.out 1).trans rfl; have hcz16_2 : w13.cell? ⟨gb275, 2, none⟩ = some (.int .i64 a1_2) := (blk_cell BK275.out 2).trans rfl; have hcz16_3 : w13.cell? ⟨gb275, 3, none⟩ = some (.slice A1_3 l1_3.length c1_3) := (blk_cell BK275.out 3).trans rfl; have hcz16_4 : w13.cell? ⟨gb275, 4, none⟩ = some (.slice A1_4 l1_4.length c1_4) := (blk_cell BK275.out 4).trans rfl; have hcz16_5 : w13.cell? ⟨gb275, 5, none⟩ = some (.slice A1_5 l1_5.length c1_5) := (blk_cell BK275.out 5).trans rfl; have hfz16_0 := blk_frozen BK275.out 0; have hfz16_1 := blk_frozen BK275.out 1; have hfz16_2 := blk_frozen BK275.out 2; have hfz16_3 := blk_frozen BK275.out 3; have hfz16_4 := blk_frozen BK275.out 4; have hfz16_5 := blk_frozen BK275.out 5) | ((with_reducible refine gate_callee (f := 40) rfl ?_); refine goesL_ (some 9) rfl rfl Try.func40 (by kernel_rfl) rfl #[.agg #[.slice A0_0 l0_0.length c0_0, .slice A0_1 l0_1.length c0_1], .agg #[.slice A1_0 l1_0.length c1_0, .slice A1_1 l1_1.length c1_1]] rfl (by (try simp only [List.map_toArray, List.map_cons, List.map_nil]); first | done | rfl | (simp only [List.length_drop, List.length_take]; rfl)) ?_; (with_reducible refine (laws_eqDisk.calls k _ _ l0_0 _ _ l0_1 _ _ l1_0 _ _ l1_1 true _ ?side1 ?side2 ?side3 ?side4 ?side5 ?side6 ?side7 ?side8 A3.out).mono ?_); (case side1 => repeat (first | exact (Kd.C_below HR0_0.out HB.out) | (with_reducible refine Kd.C_alloc ?_ _) | (with_reducible refine Kd.C_drewN ?_ _) | (with_reducible refine Kd.C_drew ?_))); (case side2 => exact HC0_0.out); (case side3 => repeat (first | exact (Kd.C_below HR0_1.out HB.out) | (with_reducible refine Kd.C_alloc ?_ _) | (with_reducible refine Kd.C_drewN ?_ _) | (with_reducible refine Kd.C_drew ?_))); (case side4 => exact HC0_1.out); (case side5 => repeat (first | exact (Kd.C_below HR1_0.out HB.out) | (with_reducible refine Kd.C_alloc ?_ _) | (with_reducible refine Kd.C_drewN ?_ _) | (with_reducible refine Kd.C_drew ?_))); (case side6 => exact HC1_0.out); (case side7 => repeat (first | exact (Kd.C_below HR1_1.out HB.out) | (with_reducible refine Kd.C_alloc ?_ _) | (with_reducible refine Kd.C_drewN ?_ _) | (with_reducible refine Kd.C_drew ?_))); (case side8 => exact HC1_1.out); rintro e w17 ⟨rfl, hb⟩; refine ⟨_, rfl, ?_⟩; have n0_ := Aside0.mk (blk_below (g := gb274) (o := .cells #[.slice A0_0 l0_0.length c0_0, .slice A0_1 l0_1.length c0_1, .int .i64 a0_2, .slice A0_3 l0_3.length c0_3, .slice A0_4 l0_4.length c0_4, .slice A0_5 l0_5.length c0_5] 47 (0, 0)) (by (with_reducible repeat (first | refine blk_drewN ?_ _ | refine blk_drew ?_ | refine blk_alloc ?_ _)); exact BK274.out) hb); have n1_ := Aside0.mk (blk_below (g := gb275) (o := .cells #[.slice A1_0 l1_0.length c1_0, .slice A1_1 l1_1.length c1_1, .int .i64 a1_2, .slice A1_3 l1_3.length c1_3, .slice A1_4 l1_4.length c1_4, .slice A1_5 l1_5.length c1_5] 47 (0, 0)) (by (with_reducible repeat (first | refine blk_drewN ?_ _ | refine blk_drew ?_ | refine blk_alloc ?_ _)); exact BK275.out) hb); have n2_ := Aside0.mk (below_step (by repeat (first | (with_reducible first | exact HB.out | apply below_alloc | apply pw_below_drewN | apply below_drew1 | refine below_set ?_ GE274.out | refine below_set ?_ GE275.out) | exact HB.out)) hb); clear BK274; clear BK275; clear HB; have BK274 := n0_; have BK275 := n1_; have HB := n2_; clear n0_ n1_ n2_; (try clear hb); (try clear hb2); (try clear hk); (try clear hi); have hcz18_0 : w17.cell? ⟨gb274, 0, none⟩ = some (.slice A0_0 l0_0.length c0_0) := (blk_cell BK274.out 0).trans rfl; have hcz18_1 : w17.cell? ⟨gb274, 1, none⟩ = some (.slice A0_1 l0_1.length c0_1) := (blk_cell BK274.out 1).trans rfl; have hcz18_2 : w17.cell? ⟨gb274, 2, none⟩ = some (.int .i64 a0_2) := (blk_cell BK274.out 2).trans rfl; have hcz18_3 : w17.cell? ⟨gb274, 3, none⟩ = some (.slice A0_3 l0_3.length c0_3) := (blk_cell BK274.out 3).trans rfl; have hcz18_4 : w17.cell? ⟨gb274, 4, none⟩ = some (.slice A0_4 l0_4.length c0_4) := (blk_cell BK274.out 4).trans rfl; have hcz18_5 : w17.cell? ⟨gb274, 5, none⟩ = some (.slice A0_5 l0_5.length c0_5) := (blk_cell BK274.out 5).trans rfl; have hfz18_0 := blk_frozen BK274.out 0; have hfz18_1 := blk_frozen BK274.out 1; have hfz18_2 := blk_frozen BK274.out 2; have hfz18_3 := blk_frozen BK274.out 3; have hfz18_4 := blk_frozen BK274.out 4; have hfz18_5 := blk_frozen BK274.out 5; have hcz19_0 : w17.cell? ⟨gb275, 0, none⟩ = some (.slice A1_0 l1_0.length c1_0) := (blk_cell BK275.out 0).trans rfl; have hcz19_1 : w17.cell? ⟨gb275, 1, none⟩ = some (.slice A1_1 l1_1.length c1_1) := (blk_cell BK275.out 1).trans rfl; have hcz19_2 : w17.cell? ⟨gb275, 2, none⟩ = some (.int .i64 a1_2) := (blk_cell BK275.out 2).trans rfl; have hcz19_3 : w17.cell? ⟨gb275, 3, none⟩ = some (.slice A1_3 l1_3.length c1_3) := (blk_cell BK275.out 3).trans rfl; have hcz19_4 : w17.cell? ⟨gb275, 4, none⟩ = some (.slice A1_4 l1_4.length c1_4) := (blk_cell BK275.out 4).trans rfl; have hcz19_5 : w17.cell? ⟨gb275, 5, none⟩ = some (.slice A1_5 l1_5.length c1_5) := (blk_cell BK275.out 5).trans rfl; have hfz19_0 := blk_frozen BK275.out 0; have hfz19_1 := blk_frozen BK275.out 1; have hfz19_2 := blk_frozen BK275.out 2; have hfz19_3 := blk_frozen BK275.out 3; have hfz19_4 := blk_frozen BK275.out 4; have hfz19_5 := blk_frozen BK275.out 5) | ((with_reducible refine gate_callee (f := 51) rfl ?_); refine goesL_ (some 20) rfl rfl Try.func51 (by kernel_rfl) rfl #[.slice A0_3 l0_3.length c0_3, .slice A1_3 l1_3.length c1_3] rfl (by (try simp only [List.map_toArray, List.map_cons, List.map_nil]); first | done | rfl | (simp only [List.length_drop, List.length_take]; rfl)) ?_; (with_reducible refine (laws_eqIntS.calls k _ _ l0_3 _ _ l1_3 true _ ?side1 ?side2 ?side3 ?side4 A6.out).mono ?_); (case side1 => repeat (first | exact (Kd.C_below HR0_3.out HB.out) | (with_reducible refine Kd.C_alloc ?_ _) | (with_reducible refine Kd.C_drewN ?_ _) | (with_reducible refine Kd.C_drew ?_))); (case side2 => exact HC0_3.out); (case side3 => repeat (first | exact (Kd.C_below HR1_3.out HB.out) | (with_reducible refine Kd.C_alloc ?_ _) | (with_reducible refine Kd.C_drewN ?_ _) | (with_reducible refine Kd.C_drew ?_))); (case side4 => exact HC1_3.out); rintro e w' ⟨rfl, ⟨nd, rfl⟩⟩; refine ⟨_, rfl, ?_⟩) | ((with_reducible refine gate_callee (f := 51) rfl ?_); refine goesL_ (some 26) rfl rfl Try.func51 (by kernel_rfl) rfl #[.slice A0_4 l0_4.length c0_4, .slice A1_4 l1_4.length c1_4] rfl (by (try simp only [List.map_toArray, List.map_cons, List.map_nil]); first | done | rfl | (simp only [List.length_drop, List.length_take]; rfl)) ?_; (with_reducible refine (laws_eqIntS.calls k _ _ l0_4 _ _ l1_4 true _ ?side1 ?side2 ?side3 ?side4 A8.out).mono ?_); (case side1 => repeat (first | exact (Kd.C_below HR0_4.out (by repeat (first | (with_reducible first | exact HB.out | apply below_alloc | apply pw_below_drewN | apply below_drew1 | refine below_set ?_ GE274.out | refine below_set ?_ GE275.out) | exact HB.out))) | (with_reducible refine Kd.C_alloc ?_ _) | (with_reducible refine Kd.C_drewN ?_ _) | (with_reducible refine Kd.C_drew ?_))); (case side2 => exact HC0_4.out); (case side3 => repeat (first | exact (Kd.C_below HR1_4.out (by repeat (first | (with_reducible first | exact HB.out | apply below_alloc | apply pw_below_drewN | apply below_drew1 | refine below_set ?_ GE274.out | refine below_set ?_ GE275.out) | exact HB.out))) | (with_reducible refine Kd.C_alloc ?_ _) | (with_reducible refine Kd.C_drewN ?_ _) | (with_reducible refine Kd.C_drew ?_))); (case side4 => exact HC1_4.out); rintro e w' ⟨rfl, ⟨nd, rfl⟩⟩; refine ⟨_, rfl, ?_⟩) | ((with_reducible refine gate_callee (f := 51) rfl ?_); refine goesL_ (some 32) rfl rfl Try.func51 (by kernel_rfl) rfl #[.slice A0_5 l0_5.length c0_5, .slice A1_5 l1_5.length c1_5] rfl (by (try simp only [List.map_toArray, List.map_cons, List.map_nil]); first | done | rfl | (simp only [List.length_drop, List.length_take]; rfl)) ?_; (with_reducible refine (laws_eqIntS.calls k _ _ l0_5 _ _ l1_5 true _ ?side1 ?side2 ?side3 ?side4 A10.out).mono ?_); (case side1 => repeat (first | exact (Kd.C_below HR0_5.out (by repeat (first | (with_reducible first | exact HB.out | apply below_alloc | apply pw_below_drewN | apply below_drew1 | refine below_set ?_ GE274.out | refine below_set ?_ GE275.out) | exact HB.out))) | (with_reducible refine Kd.C_alloc ?_ _) | (with_reducible refine Kd.C_drewN ?_ _) | (with_reducible refine Kd.C_drew ?_))); (case side2 => exact HC0_5.out); (case side3 => repeat (first | exact (Kd.C_below HR1_5.out (by repeat (first | (with_reducible first | exact HB.out | apply below_alloc | apply pw_below_drewN | apply below_drew1 | refine below_set ?_ GE274.out | refine below_set ?_ GE275.out) | exact HB.out))) | (with_reducible refine Kd.C_alloc ?_ _) | (with_reducible refine Kd.C_drewN ?_ _) | (with_reducible refine Kd.C_drew ?_))); (case side4 => exact HC1_5.out); rintro e w' ⟨rfl, ⟨nd, rfl⟩⟩; refine ⟨_, rfl, ?_⟩))
      go_ret
      exact ⟨by first | rfl | (simp [errW_none, errW_some] <;> rfl) | (simp [*, errW_none, errW_some] <;> rfl), by repeat (first | (with_reducible first | exact HB.out | apply below_alloc | apply pw_below_drewN | apply below_drew1 | refine below_set ?_ GE274.out | refine below_set ?_ GE275.out) | exact HB.out)⟩
     ·replace c11 := Bool.eq_false_iff.mpr c11
      subst c11
      have H1 : (none) = some r := by rw [if_neg (show ¬ (false = true) by decide)] at H; exact H
      clear H
      have H := H1
      clear H1
      exact absurd H (by simp)
    ·replace c9 := Bool.eq_false_iff.mpr c9
     subst c9
     have H1 : (none) = some r := by rw [if_neg (show ¬ (false = true) by decide)] at H; exact H
     clear H
     have H := H1
     clear H1
     exact absurd H (by simp)
   ·replace c7 := Bool.eq_false_iff.mpr c7
    subst c7
    have H1 : (none) = some r := by rw [if_neg (show ¬ (false = true) by decide)] at H; exact H
    clear H
    have H := H1
    clear H1
    exact absurd H (by simp)
  ·rw [if_neg c5] at H
   exact absurd H (by simp)
 ·replace c4 := Bool.eq_false_iff.mpr c4
  subst c4
  have H1 : (none) = some r := by rw [if_neg (show ¬ (false = true) by decide)] at H; exact H
  clear H
  have H := H1
  clear H1
  exact absurd H (by simp)
end Go.Proofs.Ytapholbdjccapaa.PFnExactTreeOk
