import Derived.Test.YtonhdiemjgdcnaaRD10
import Derived.Deep.RegionLaw
import Derived.Lib.SliceRun
import Derived.ProofKit
import Derived.OpenShut
import Derived.Deep.Slices
import Derived.ShutString
import Derived.ChangeOld
set_option maxHeartbeats 64000000
set_option maxRecDepth 100000
set_option linter.unusedVariables false
set_option linter.unusedSimpArgs false
namespace Go.Proofs.Ytonhdiemjgdcnaa.PFnExactGivePage
open Go.RowKit Go.Proofs.YtonhdiemjgdcnaaW.PrintWords Go.Proofs.YtonhdiemjgdcnaaW.PrintLast Go.Proofs.YtonhdiemjgdcnaaW.PrintMore
attribute [local go_sem] max2_int min2_int max_two min_two max_three min_three max_four min_four
theorem run_clear_one {P : Program} (w : World) (t e ty : TypeId) (z : Value) (vs : List Value) (ht : P.underlying t = some (.slice e)) (hv : ∀ w, (zeroValue e).run P w = .ok z w) (hz : (Builtin.zeroCells z.cells 1).toList = vs) (h1 : ∀ v ∈ vs, v.oneCell' = true) (b o c : Nat)
  (hc : ∀ j, j < vs.length → (w.cell? ⟨b, o + j, none⟩).isSome = true) (hf : ∀ j, j < vs.length → w.frozen? ⟨b, o + j, none⟩ = false) :
  (Builtin.clear_ #[t] ty #[.slice (some ⟨b, o, none⟩) 1 c]).run P w = .ok (.tuple #[]) (w.setCells b o vs) := by
 have hst := run_storeCells_cells (P := P) b o vs 0 w (by simpa using hc) (by simpa using hf) h1
 simp only [Nat.add_zero] at hst
 simp [Builtin.clear_, run_underlying ht, hv, hz, hst]
theorem Put1.trans {A B C : World} {g : Nat} (h : Put1 A B g) (h2 : Put1 B C g) : Put1 A C g :=
 ⟨⟨Nat.le_trans h.kept.1 h2.kept.1, fun k hk hn => (h2.kept.2 k (Nat.lt_of_lt_of_le hk h.kept.1) hn).trans (h.kept.2 k hk hn)⟩, fun w hg hb => h2.below w hg (h.below w hg hb), h2.size.trans h.size⟩
theorem Put1.drew (A : World) (g : Nat) : Put1 A A.drew g := ⟨⟨Nat.le_refl _, fun _ _ _ => rfl⟩, fun _ _ hb => hb.drew, rfl⟩
theorem delete_raw (A D Q R : List Value) (g n cap i j : Nat) (hji : j = i + 1) (hA : A.length = i * 5) (hD : D.length = 5) (hQ : Q.length = (n - j) * 5) (hi : i < n) (hnc : n ≤ cap) (hR : R.length = (cap - n) * 5) (h1 : ∀ v ∈ Q, v.oneCell' = true) (hc : cap ≤ 9223372036854775807) (w : World) (hb : w.heap[g]? = some (.cells (A ++ (D ++ (Q ++ R))).toArray 118 (0, 0))) :
  Calls Try.prog 84 #[.slice (some ⟨g, 0, none⟩) n cap, .int .i64 (i : Int), .int .i64 (j : Int)] w fun e w' => e = .returned (.slice (some ⟨g, 0, none⟩) (n - 1) cap) ∧ w'.heap[g]? = some (.cells (A ++ (Q ++ (Z118 ++ R))).toArray 118 (0, 0)) ∧ Put1 w w' g := by
 obtain ⟨i0, hi0, hz0⟩ := Option.map_eq_some_iff.1 info118
 have hz1 : i0.size = 5 := congrArg (fun x => x.2.1) hz0
 have hwd : w.drew.heap[g]? = some (.cells (A ++ (D ++ (Q ++ R))).toArray 118 (0, 0)) := hb
 -- what is moved to the left
 obtain ⟨B, hB, hsrc⟩ : ∃ B : Addr, (if cap = j then some (⟨g, 0, none⟩ : Addr) else some ⟨g, j * 5, none⟩) = some B ∧ Aside0 (∀ t u, Q[t]? = some u → w.drew.cell? (B.add t) = some u) := by
  by_cases h : cap = j
  ·refine ⟨⟨g, 0, none⟩, by simp [h], ⟨fun t u hu => ?_⟩⟩
   have h0 : Q.length = 0 := by rw [hQ]; omega
   rw [List.length_eq_zero_iff.1 h0] at hu
   simp at hu
  ·refine ⟨⟨g, j * 5, none⟩, by simp [h], ⟨fun t u hu => ?_⟩⟩
   have ht := (List.getElem?_eq_some_iff.1 hu).1
   rw [Addr.add_lit, blk_cell hwd, List.getElem?_toArray, List.getElem?_append_right (by rw [hA]; omega), List.getElem?_append_right (by rw [hA, hD]; omega), List.getElem?_append_left (by rw [hA, hD]; omega), show j * 5 + t - A.length - D.length = t by rw [hA, hD]; omega]
   exact hu
 have s1 := Aside0.mk hQ
 have s2 := Aside0.mk h1
 have s3 : Aside0 (∀ t, t < Q.length → (w.drew.cell? ⟨g, 0 + i * 5 + t, none⟩).isSome = true ∧ w.drew.frozen? ⟨g, 0 + i * 5 + t, none⟩ = false) := ⟨fun t ht => ⟨by rw [blk_cell hwd, List.getElem?_toArray, List.getElem?_eq_getElem (by simp only [List.length_append]; omega)]; rfl, blk_frozen hwd _⟩⟩
 obtain ⟨W1, hW1⟩ : ∃ W1, W1 = w.drew.setCells g (0 + i * 5) Q := ⟨_, rfl⟩
 obtain ⟨X, Y, hXY, hX⟩ : ∃ X Y, D ++ Q = X ++ Y ∧ X.length = Q.length := ⟨(D ++ Q).take Q.length, (D ++ Q).drop Q.length, (List.take_append_drop _ _).symm, by rw [List.length_take, List.length_append]; omega⟩
 have hY : Y.length = 5 := by have := congrArg List.length hXY; simp only [List.length_append] at this; omega
 have b1 : W1.heap[g]? = some (.cells (A ++ (Q ++ (Y ++ R))).toArray 118 (0, 0)) := by
  rw [hW1, Nat.zero_add, ← hA]
  exact part_set Q X A (Y ++ R) w.drew hX.symm (by rw [hwd, ← List.append_assoc D, hXY, List.append_assoc])
 have b2 : (W1.setCells g (A ++ Q).length Z118).heap[g]? = some (.cells ((A ++ Q) ++ (Z118 ++ R)).toArray 118 (0, 0)) := part_set Z118 Y (A ++ Q) R W1 (by rw [hY]; rfl) (by rw [b1, List.append_assoc])
 have hl : (A ++ Q).length = (i + (n - j)) * 5 := by rw [List.length_append, hA, hQ]; omega
 have hcl : ∀ ty, (Builtin.clear_ #[54] ty #[.slice (some ⟨g, (i + (n - j)) * 5, none⟩) (n - (i + (n - j))) (cap - (i + (n - j)))]).run Try.prog W1 = .ok (.tuple #[]) (W1.setCells g ((i + (n - j)) * 5) Z118) :=
  fun ty => by
   rw [show n - (i + (n - j)) = 1 by omega]
   exact run_clear_one W1 54 118 ty (.agg #[.int .i64 0, .int .i64 0, .int .i64 0, .int .i64 0, .slice none 0 0]) Z118 Try.underlying54 (fun w => by kernel_rfl) (by kernel_rfl) (by decide) g _ _ (fun j hj => by
   have hj5 : j < 5 := hj
   rw [blk_cell b1, List.getElem?_toArray, List.getElem?_eq_getElem (by simp only [List.length_append]; omega)]; rfl) (fun j hj => blk_frozen b1 _)
 have fin : Aside0 ((W1.setCells g ((i + (n - j)) * 5) Z118).heap[g]? = some (.cells (A ++ (Q ++ (Z118 ++ R))).toArray 118 (0, 0)) ∧ Put1 w (W1.setCells g ((i + (n - j)) * 5) Z118) g) := ⟨by rw [← hl, b2, List.append_assoc], by rw [hW1]; exact ((Put1.drew w g).trans (Put1.cells _ _)).trans (Put1.cells _ _)⟩
 have hW := Aside0.mk hW1
 have hBB := Aside0.mk hB
 clear hW1 b1 b2 hwd hb hX hY hXY hl hB h1 hz0
 have hic : i ≤ cap := by omega
 have hjc : j ≤ cap := by omega
 have hij : i ≤ j := by omega
 have hlt : i < j := by omega
 have hjn : j ≤ n := by omega
 have HJ := Aside0.mk hji
 clear hji
 go_enter Try.func84, Try.ntmps84
 go_wp2_with fail
 go_region_law (refine step_append_room rfl (.tmp 22) (.tmp 25) 54 rfl 118 i0 5 Try.underlying54 hi0 hz1 g 0 i cap (by simp [Act.eval, Act.put]) B (n - j) (cap - j) Q (by simp [Act.eval, Act.put]; exact hBB.out) s1.out hsrc.out s2.out (by omega) s3.out ?_; rw [← hW.out])
 go_wp2
 all_goals (go_ret; exact ⟨by rw [show n - 1 = i + (n - j) by have := HJ.out; omega]; rfl, fin.out⟩)
theorem delete_S {zs : List S118} {i j : Nat} (hji : j = i + 1) (hi : i < zs.length) {w : World} {base : Nat} {ok : Nat → Prop} {v : Value} (h : Kd.S k118 118 w base ok v zs) :
  Calls Try.prog 84 #[v, .int .i64 (i : Int), .int .i64 (j : Int)] w fun e w' => ∃ u : Value, e = .returned u ∧ Kd.S k118 118 w' base ok u (zs.eraseIdx i) ∧ ∃ g, ok g ∧ base ≤ g ∧ Put1 w w' g := by
 obtain ⟨f, h0, inner, ho, hr⟩ := h
 rw [List.length_zipIdx] at ho
 have hsz : (Kd.tag f k118).sz = 5 := rfl
 rw [hsz] at ho hr
 have hil : inner.length = zs.length * 5 := ho.1
 rcases ho.2 with ⟨rfl, hn⟩ | ⟨g, cap, cur, rfl, hg, hb, hnc, hcm, hcs, hcur⟩
 ·omega
 ·have e1 : cur.toList = inner.take (i * 5) ++ ((inner.drop (i * 5)).take 5 ++ (inner.drop (j * 5) ++ cur.toList.drop (zs.length * 5))) := by
   rw [show j * 5 = i * 5 + 5 by omega, ← List.drop_drop, ← List.append_assoc (List.take 5 _), List.take_append_drop, ← List.append_assoc, List.take_append_drop]
   exact (hcur ▸ (List.take_append_drop (zs.length * 5) cur.toList).symm : _)
  have e2 : cur = (inner.take (i * 5) ++ ((inner.drop (i * 5)).take 5 ++ (inner.drop (j * 5) ++ cur.toList.drop (zs.length * 5)))).toArray := by rw [← e1]
  have hA : (inner.take (i * 5)).length = i * 5 := by rw [List.length_take]; omega
  have hQ : (inner.drop (j * 5)).length = (zs.length - j) * 5 := by rw [List.length_drop, hil]; omega
  have hone : ∀ u ∈ inner.drop (j * 5), u.oneCell' = true := fun u hu => by
   obtain ⟨q, hq⟩ := List.getElem?_of_mem (List.mem_of_mem_drop hu)
   have hq2 := (List.getElem?_eq_some_iff.1 hq).1
   have hm : q / 5 < zs.length := by omega
   have := hr.2 (q / 5) (zs[q / 5], q / 5) (Kd.zip_at (List.getElem?_eq_getElem hm))
   refine k118.K_one (k118.K_of_M this) u (List.mem_of_getElem? (i := q % 5) ?_)
   rw [List.getElem?_take, if_pos (Nat.mod_lt _ (by decide)), List.getElem?_drop, show q / 5 * 5 + q % 5 = q by omega]
   exact hq
  have hw := hb
  rw [e2] at hw
  refine (delete_raw (inner.take (i * 5)) ((inner.drop (i * 5)).take 5) (inner.drop (j * 5)) (cur.toList.drop (zs.length * 5)) g zs.length cap i j hji hA (by rw [List.length_take, List.length_drop, hil]; omega) hQ hi hnc (by rw [List.length_drop, Array.length_toList, hcs]; omega) hone hcm w hw).mono ?_
  rintro e w' ⟨rfl, hb2, hp⟩
  have hel : (zs.eraseIdx i).length = zs.length - 1 := by rw [List.length_eraseIdx, if_pos hi]
  refine ⟨_, rfl, ⟨fun k => if f k < i then f k else if f k = i then zs.length else f k - 1, fun k hk => h0 k hk, inner.take (i * 5) ++ inner.drop (j * 5), ⟨?_, Or.inr ⟨g, cap, _, ?_, hg, hb2, ?_, hcm, ?_, ?_⟩⟩, ?_, ?_⟩, g, h0 g rfl, hg, hp⟩
  ·rw [List.length_zipIdx, hel, List.length_append, hA, hQ]
   show _ = (zs.length - 1) * 5
   omega
  ·rw [List.length_zipIdx, hel]
  ·rw [List.length_zipIdx, hel]
   omega
  ·show (_ : List Value).length = cap * 5
   simp only [List.length_append, hA, hQ, List.length_drop, Array.length_toList, hcs]
   show i * 5 + ((zs.length - j) * 5 + (5 + (cap * 5 - zs.length * 5))) = cap * 5
   omega
  ·show List.take ((zs.eraseIdx i).zipIdx.length * 5) (_ : List Value) = _
   rw [List.length_zipIdx, hel, ← List.append_assoc, List.take_append_of_le_length (by rw [List.length_append, hA, hQ]; omega), List.take_of_length_le (by rw [List.length_append, hA, hQ]; omega)]
  ·rw [List.length_zipIdx, hel, List.length_append, hA, hQ]
   show _ = (zs.length - 1) * 5
   omega
  ·intro m p hp2
   have hm := (List.getElem?_eq_some_iff.1 hp2).1
   rw [List.length_zipIdx, hel] at hm
   have hpe : p = ((zs.eraseIdx i)[m]'(by omega), m) := by
    rw [Kd.zip_at (List.getElem?_eq_getElem (by omega))] at hp2
    exact (Option.some.inj hp2).symm
   subst hpe
   have key : ∀ m2 (h2 : m2 < zs.length), k118.M w' base (fun k => (ok k ∧ some k ≠ (Value.slice (some ⟨g, 0, none⟩) zs.length cap).ownBlock) ∧ f k = m2) zs[m2] ((inner.drop (m2 * 5)).take 5) := fun m2 h2 =>
    Kd.M_step (hr.2 m2 (zs[m2], m2) (Kd.zip_at (List.getElem?_eq_getElem h2))) (fun k hk hlt => hp.kept.2 k hlt (fun e => hk.1.2 (by rw [e]; rfl)))
   rcases Nat.lt_or_ge m i with hmi | hmi
   ·have := key m (by omega)
    show k118.M w' base _ ((zs.eraseIdx i)[m]'(by omega)) (List.take 5 (List.drop (m * 5) (inner.take (i * 5) ++ inner.drop (j * 5))))
    rw [List.getElem_eraseIdx, dif_pos hmi, List.drop_append_of_le_length (by rw [hA]; omega), List.take_append_of_le_length (by rw [List.length_drop, hA]; omega), List.drop_take, List.take_take, show min 5 (i * 5 - m * 5) = 5 by omega]
    exact k118.M_mono (fun k hk => ⟨hk.1, by show (if f k < i then f k else _) = m; rw [if_pos (by rw [hk.2]; exact hmi)]; exact hk.2⟩) this
   ·have := key (m + 1) (by omega)
    show k118.M w' base _ ((zs.eraseIdx i)[m]'(by omega)) (List.take 5 (List.drop (m * 5) (inner.take (i * 5) ++ inner.drop (j * 5))))
    rw [List.getElem_eraseIdx, dif_neg (by omega), List.drop_append, List.drop_of_length_le (by rw [hA]; omega), List.nil_append, hA, List.drop_drop, show j * 5 + (m * 5 - i * 5) = (m + 1) * 5 by omega]
    exact k118.M_mono (fun k hk => ⟨hk.1, by show (if f k < i then f k else if f k = i then zs.length else f k - 1) = m; rw [if_neg (by rw [hk.2]; omega), if_neg (by rw [hk.2]; omega), hk.2]; rfl⟩) this
theorem deleteR_c {z : ((List ByteArray × List S135) × S53 × List S118 × (S53 × (List ByteArray × List S135 × Int × List Int × List Int × List Int) × Int) × Bool × Bool)} {i j : Nat} {jv : Int} (hjv : jv = (j : Int)) (hji : j = i + 1) (hi : i < z.2.2.1.length) {cD cM c3 : List Value} {v : Value} {ok : Nat → Prop} (w0 w : World) (hB : Below w0.heap.size w0 w) (h : kStore.M w w0.heap.size ok z (cD ++ (cM ++ ([v] ++ c3)))) (hD : cD.length = 2) (hM : cM.length = 4) :
  Calls Try.prog 84 #[v, .int .i64 (i : Int), .int .i64 jv] w fun e w' => ∃ (A2 : Option Addr) (n2 c2 : Nat), e = .returned (.slice A2 n2 c2) ∧ kStore.M w' w0.heap.size ok (z.1, z.2.1, z.2.2.1.eraseIdx i, z.2.2.2) (cD ++ (cM ++ ([.slice A2 n2 c2] ++ c3))) ∧ Below w0.heap.size w0 w' ∧ Kept w w' ok := by
 subst hjv
 obtain ⟨c0, c1, o0, o1, e, m0, h, a0, b0, x0⟩ := Own.apair_open h
 obtain ⟨rfl, rfl⟩ := List.append_inj e (hD.trans (kDisk.K_len (kDisk.K_of_M m0)).symm)
 obtain ⟨c2, c4, o2, o3, e, m1, h, a1, b1, x1⟩ := Own.apair_open h
 obtain ⟨rfl, rfl⟩ := List.append_inj e (hM.trans (k53.K_len (k53.K_of_M m1)).symm)
 obtain ⟨c5, c6, o4, o5, e, m2, m3, a2, b2, x2⟩ := Own.apair_open h
 obtain ⟨v', rfl, hS⟩ := m2
 obtain ⟨e1, rfl⟩ := List.append_inj e rfl
 injection e1 with e1
 subst e1
 refine (delete_S hji hi hS).mono ?_
 rintro e w' ⟨u, rfl, hS2, g, hg, hbg, hp⟩
 obtain ⟨A2, cc2, rfl⟩ := Kd.S_slice hS2
 have far : ∀ {o : Nat → Prop}, (∀ k, o k → ¬ o4 k) → ∀ k, o k → k < w.heap.size → w'.heap[k]? = w.heap[k]? := fun ho k hk hlt => hp.kept.2 k hlt (fun e => ho k hk (by rw [e]; exact hg))
 exact ⟨A2, _, cc2, rfl, Own.apair_mk (Kd.M_step m0 (far (fun k hk h4 => x0 k hk (b1 k (a2 k h4))))) (Own.apair_mk (Kd.M_step m1 (far (fun k hk h4 => x1 k hk (a2 k h4)))) (Own.apair_mk (show (Own.srow 118 k118).M w' w0.heap.size o4 _ [_] from ⟨_, rfl, hS2⟩) (Kd.M_step m3 (far (fun k hk h4 => x2 k h4 hk))) a2 b2 x2) a1 b1 x1) a0 b0 x0, hp.below w0 hbg hB, hp.kept.1, fun k hk hn => hp.kept.2 k hk (fun e => hn (by rw [e]; exact b0 g (b1 g (a2 g hg))))⟩
theorem Env.retold {w0 W W' : World} {top : Nat} {fs : List Fct} (E : Env w0 W top fs) (i : Nat) {α : Type} {d : Kd α} {lo hi : Nat} {ok : Nat → Prop} {x x' : α} {cs cs' : List Value} (hf : fs[i]? = some (Fct.made d w0.heap.size lo hi ok x cs)) (M : d.M W' w0.heap.size (fun k => ok k ∧ Iv lo hi k) x' cs') (hB : Below w0.heap.size w0 W') (hK : Kept W W' (fun k => ok k ∧ Iv lo hi k)) (ho : Off2 lo hi fs i) : Env w0 W' top (fs.set i (Fct.made d w0.heap.size lo hi ok x' cs')) :=
 ⟨hB, Nat.le_trans E.le hK.1, E.ge, All.off2 (fun k hk h2 => hK.2 k (Nat.lt_of_lt_of_le hk E.le) (fun h => by have h3 := h.2.1; have h4 := h.2.2; omega)) (Nat.le_refl _) (f' := Fct.made d w0.heap.size lo hi ok x' cs') (show hi ≤ top from (All.get i E.all hf).1) M i E.all ho⟩
theorem implEnd_f (k : Nat) (a0 : List ByteArray) (a1 : List S135) (x : S53) (rs : List S118) (y : S53) (l0 : List ByteArray) (l1 : List S135) (l2 : Int) (l3 l4 l5 : List Int) (n : Int) (bw bf : Bool) (id : Int) {cs : List Value} (w : World) (h : kStore.K w ((a0, a1), x, rs, (y, (l0, l1, l2, l3, l4, l5), n), bw, bf) cs) (f1 : impl_cloneDisk.f a0 a1 = some (a0, a1)) (f2 : impl_cloneMeta.f k x.f0 x.f1 x.f2 x.f3 = some (x.f0, x.f1, x.f2, x.f3)) (f3 : ∀ r ∈ rs, impl_cloneMeta.f k r.f1.f0 r.f1.f1 r.f1.f2 r.f1.f3 = some (r.f1.f0, r.f1.f1, r.f1.f2, r.f1.f3)) (f4 : impl_cloneMeta.f k y.f0 y.f1 y.f2 y.f3 = some (y.f0, y.f1, y.f2, y.f3)) (f5 : ((l0.length ≤ 2000000 ∧ l1.length ≤ 2000000) ∧ l3.length ≤ 2000000 ∧ l4.length ≤ 2000000 ∧ l5.length ≤ 2000000)) (hl : rs.length ≤ 2000000) (hr : At rs id (-1)) :
  Calls Try.prog 34 #[.agg cs.toArray, .int .i64 id] w fun e w' => ∃ ds : List Value, e = .returned (.tuple #[.agg ds.toArray, .int .i64 2]) ∧ kStore.M w' w.heap.size (Fr w w') ((a0, a1), x, rs, (y, (l0, l1, l2, l3, l4, l5), n), bw, bf) ds ∧ Below w.heap.size w w' := by
 have KS0 := h
 obtain ⟨cD, _, rfl, hD, cM, _, rfl, hM, cR, _, rfl, hR, cT, _, rfl, hT, cB, cF, rfl, hW, hF⟩ := h
 obtain rfl : cB = [.bool bw] := hW
 obtain rfl : cF = [.bool bf] := hF
 have hR2 := hR
 obtain ⟨AR, ccR, rfl, mR, rR⟩ := hR
 obtain ⟨cs, hcs⟩ : ∃ cs, cs = cD ++ (cM ++ ([.slice AR rs.length ccR] ++ (cT ++ ([.bool bw] ++ [.bool bf])))) := ⟨_, rfl⟩
 rw [← hcs] at KS0 ⊢
 have Ecs := Aside0.mk hcs
 have KS := Aside0.mk KS0
 have KD := Aside0.mk (show kDisk.K w (a0, a1) cD from hD)
 have KM := Aside0.mk (show k53.K w x cM from hM)
 have KR := Aside0.mk hR2
 have CR := Aside0.mk rR
 have KT := Aside0.mk (show kTxn.K w (y, (l0, l1, l2, l3, l4, l5), n) cT from hT)
 have LD := Aside0.mk (show cD.length = 2 from kDisk.K_len hD)
 have LM := Aside0.mk (show cM.length = 4 from k53.K_len hM)
 have LT := Aside0.mk (show cT.length = 11 from kTxn.K_len hT)
 have Lcs := Aside0.mk (show cs.length = 20 from kStore.K_len KS0)
 have F1 := Aside0.mk f1
 have F2 := Aside0.mk f2
 have F3 := Aside0.mk f3
 have F4 := Aside0.mk f4
 have F5 := Aside0.mk f5
 have FL := Aside0.mk hl
 clear KS0 hD hM hT hR2 mR rR hcs f1 f2 f3 f4 f5 hl
 have HR := Aside0.mk hr; clear hr
 have O := Aside0.mk (Nat.le_refl w.heap.size)
 have E := Aside0.mk (Env.start w)
 go_enter Try.func34, Try.ntmps34
 go_wp2_with (first | ((with_reducible refine gate_dst (N := 8) rfl ?_); replace O := Aside0.mk (And.intro E.out.le O.out); replace E := Aside0.mk (E.out.alloc cs 58 (g := w.heap.size) rfl); replace E := Aside0.mk (E.out.alloc Z58 58 (g := (w.heap.size + 1)) (by simp)); refine ev_loadpart rfl 58 _ rfl w.heap.size 0 [] cs [] _ rfl (E.out.box 1 rfl) (by first | rfl | (simp only [aA, aN, aL]; first | done | rfl)) (rfl) Try.underlying58 rfl (by rw [Lcs.out]; kernel_rfl) ?_))
 ((with_reducible refine (cloneStore_o k a0 a1 x rs y l0 l1 l2 l3 l4 l5 n bw bf _ (E.out.K KS.out) F1.out F2.out F3.out F4.out F5.out FL.out).mono ?_); rintro e w1_ ⟨d2_, rfl, Md2_, hb⟩)
 have Ld2_ := Aside0.mk (show d2_.length = 20 from Kd.K_len _ (Kd.K_of_M _ Md2_)); have Od2_ := Aside0.mk (one_of_K (Kd.K_of_M _ Md2_))
 obtain ⟨n3_, m4_, hT, hE⟩ := E.out.made_ Md2_ hb; replace O := Aside0.mk (And.intro hT O.out); replace E := Aside0.mk hE; clear hT hE Md2_ hb
 go_wp2_with (first | ((with_reducible refine gate_store (t := 58) (p := 6) rfl ?_); replace O := Aside0.mk (And.intro E.out.le O.out); replace E := Aside0.mk (E.out.alloc Z58 58 (g := w1_.heap.size) rfl); refine ev_storepart rfl 58 _ _ rfl rfl w1_.heap.size 0 d2_ [] Z58 [] rfl rfl (E.out.box 0 rfl) (by first | rfl | (simp only [aA, aN, aL]; first | done | rfl)) (rfl) (by rw [Ld2_.out]; rfl) (by rw [Ld2_.out]; kernel_rfl) Od2_.out ?_; intro W5_ hp hn; replace E := E.out.put2 0 hp hn (by have o := O.out; dsimp only [Off, OffA, Fct.box, Fct.made, List.set]; and_intros <;> first | trivial | omega); clear hp hn) | ((with_reducible refine gate_dst (N := 10) rfl ?_); refine ev_loadpart rfl 58 _ rfl w.heap.size 0 [] cs [] _ rfl (E.out.box 3 rfl) (by first | rfl | (simp only [aA, aN, aL]; first | done | rfl)) (rfl) Try.underlying58 rfl (by rw [Lcs.out]; kernel_rfl) ?_))
 ((with_reducible refine (readerAt_c ((a0, a1), x, rs, (y, (l0, l1, l2, l3, l4, l5), n), bw, bf) id (-1) _ (E.out.K KS.out) HR.out FL.out).mono ?_); rintro e w6_ ⟨rfl, hb⟩)
 replace E := Aside0.mk (E.out.call hb); clear hb
 go_wp2_with (first | ((with_reducible refine gate_dst (N := 15) rfl ?_); refine ev_loadpart rfl 58 _ rfl w1_.heap.size 0 [] d2_ [] _ rfl (E.out.box 0 rfl) (by first | rfl | (simp only [aA, aN, aL]; first | done | rfl)) (rfl) Try.underlying58 rfl (by rw [Ld2_.out]; kernel_rfl) ?_) | ((with_reducible refine gate_store (t := 58) (p := 4) rfl ?_); refine ev_storepart rfl 58 _ _ rfl rfl (w.heap.size + 1) 0 d2_ [] Z58 [] rfl rfl (E.out.box 2 rfl) (by first | rfl | (simp only [aA, aN, aL]; first | done | rfl)) (rfl) (by rw [Ld2_.out]; rfl) (by rw [Ld2_.out]; kernel_rfl) Od2_.out ?_; intro W7_ hp hn; replace E := E.out.put2 2 hp hn (by have o := O.out; dsimp only [Off, OffA, Fct.box, Fct.made, List.set]; and_intros <;> first | trivial | omega); clear hp hn))
 have BX := Aside0.mk (show _ = some (Obj.cells (d2_ : List Value).toArray 58 (0, 0)) from by first | exact (E.out.box 2 rfl) | simpa only [aA, aN, aL] using (E.out.box 2 rfl))
 refine bodyPost_ret (results_list (rs := [.cell 4 58, .tmp 5]) rfl (by simp) (.cell (w.heap.size + 1) 58 _ _ _ rfl BX.out Try.underlying58 rfl (by rw [List.size_toArray, show (d2_ : List Value).length = 20 from Ld2_.out]; kernel_rfl) (.tmp .nil))) rfl ?_
 exact ⟨_, rfl, (fresh (d := kStore) (E.out.made 1 rfl) (Nat.le_refl _)), E.out.below⟩
theorem implEnd_t (k : Nat) (a0 : List ByteArray) (a1 : List S135) (x : S53) (rs : List S118) (y : S53) (l0 : List ByteArray) (l1 : List S135) (l2 : Int) (l3 l4 l5 : List Int) (n : Int) (bw bf : Bool) (id : Int) (i : Nat) {cs : List Value} (w : World) (h : kStore.K w ((a0, a1), x, rs, (y, (l0, l1, l2, l3, l4, l5), n), bw, bf) cs) (f1 : impl_cloneDisk.f a0 a1 = some (a0, a1)) (f2 : impl_cloneMeta.f k x.f0 x.f1 x.f2 x.f3 = some (x.f0, x.f1, x.f2, x.f3)) (f3 : ∀ r ∈ rs, impl_cloneMeta.f k r.f1.f0 r.f1.f1 r.f1.f2 r.f1.f3 = some (r.f1.f0, r.f1.f1, r.f1.f2, r.f1.f3)) (f4 : impl_cloneMeta.f k y.f0 y.f1 y.f2 y.f3 = some (y.f0, y.f1, y.f2, y.f3)) (f5 : ((l0.length ≤ 2000000 ∧ l1.length ≤ 2000000) ∧ l3.length ≤ 2000000 ∧ l4.length ≤ 2000000 ∧ l5.length ≤ 2000000)) (hl : rs.length ≤ 2000000) (hr : At rs id (i : Int)) (hi : i < rs.length) :
  Calls Try.prog 34 #[.agg cs.toArray, .int .i64 id] w fun e w' => ∃ ds : List Value, e = .returned (.tuple #[.agg ds.toArray, .int .i64 0]) ∧ kStore.M w' w.heap.size (Fr w w') ((a0, a1), x, rs.eraseIdx i, (y, (l0, l1, l2, l3, l4, l5), n), bw, bf) ds ∧ Below w.heap.size w w' := by
 have KS0 := h
 obtain ⟨cD, _, rfl, hD, cM, _, rfl, hM, cR, _, rfl, hR, cT, _, rfl, hT, cB, cF, rfl, hW, hF⟩ := h
 obtain rfl : cB = [.bool bw] := hW
 obtain rfl : cF = [.bool bf] := hF
 have hR2 := hR
 obtain ⟨AR, ccR, rfl, mR, rR⟩ := hR
 obtain ⟨cs, hcs⟩ : ∃ cs, cs = cD ++ (cM ++ ([.slice AR rs.length ccR] ++ (cT ++ ([.bool bw] ++ [.bool bf])))) := ⟨_, rfl⟩
 rw [← hcs] at KS0 ⊢
 have Ecs := Aside0.mk hcs
 have KS := Aside0.mk KS0
 have KD := Aside0.mk (show kDisk.K w (a0, a1) cD from hD)
 have KM := Aside0.mk (show k53.K w x cM from hM)
 have KR := Aside0.mk hR2
 have CR := Aside0.mk rR
 have KT := Aside0.mk (show kTxn.K w (y, (l0, l1, l2, l3, l4, l5), n) cT from hT)
 have LD := Aside0.mk (show cD.length = 2 from kDisk.K_len hD)
 have LM := Aside0.mk (show cM.length = 4 from k53.K_len hM)
 have LT := Aside0.mk (show cT.length = 11 from kTxn.K_len hT)
 have Lcs := Aside0.mk (show cs.length = 20 from kStore.K_len KS0)
 have F1 := Aside0.mk f1
 have F2 := Aside0.mk f2
 have F3 := Aside0.mk f3
 have F4 := Aside0.mk f4
 have F5 := Aside0.mk f5
 have FL := Aside0.mk hl
 clear KS0 hD hM hT hR2 mR rR hcs f1 f2 f3 f4 f5 hl
 have HR := Aside0.mk hr; have HI := Aside0.mk hi; clear hr hi
 have d14 : decide ((i : Int) < 0) = false := decide_eq_false (by omega)
 have O := Aside0.mk (Nat.le_refl w.heap.size)
 have E := Aside0.mk (Env.start w)
 go_enter Try.func34, Try.ntmps34
 go_wp2_with (first | ((with_reducible refine gate_dst (N := 8) rfl ?_); replace O := Aside0.mk (And.intro E.out.le O.out); replace E := Aside0.mk (E.out.alloc cs 58 (g := w.heap.size) rfl); replace E := Aside0.mk (E.out.alloc Z58 58 (g := (w.heap.size + 1)) (by simp)); refine ev_loadpart rfl 58 _ rfl w.heap.size 0 [] cs [] _ rfl (E.out.box 1 rfl) (by first | rfl | (simp only [aA, aN, aL]; first | done | rfl)) (rfl) Try.underlying58 rfl (by rw [Lcs.out]; kernel_rfl) ?_))
 ((with_reducible refine (cloneStore_o k a0 a1 x rs y l0 l1 l2 l3 l4 l5 n bw bf _ (E.out.K KS.out) F1.out F2.out F3.out F4.out F5.out FL.out).mono ?_); rintro e w1_ ⟨d2_, rfl, Md2_, hb⟩)
 have Ld2_ := Aside0.mk (show d2_.length = 20 from Kd.K_len _ (Kd.K_of_M _ Md2_)); have Od2_ := Aside0.mk (one_of_K (Kd.K_of_M _ Md2_))
 obtain ⟨n3_, m4_, hT, hE⟩ := E.out.made_ Md2_ hb; replace O := Aside0.mk (And.intro hT O.out); replace E := Aside0.mk hE; clear hT hE Md2_ hb
 obtain ⟨gD, gM, AG, cG, gT, hg, lD, lM, lT, hR⟩ := kStore_parts (E.out.made 0 rfl)
 have Ed2_ := Aside0.mk hg; have LgD := Aside0.mk lD; have LgM := Aside0.mk lM; have LgT := Aside0.mk lT
 clear hg lD lM lT hR
 have OgD := Aside0.mk (fun v hv => Od2_.out v (by rw [Ed2_.out]; simp only [List.mem_append]; exact Or.inl hv))
 have OgM := Aside0.mk (fun v hv => Od2_.out v (by rw [Ed2_.out]; simp only [List.mem_append]; exact Or.inr (Or.inl hv)))
 have OgT := Aside0.mk (fun v hv => Od2_.out v (by rw [Ed2_.out]; simp only [List.mem_append]; exact Or.inr (Or.inr (Or.inr (Or.inl hv)))))
 go_wp2_with (first | ((with_reducible refine gate_store (t := 58) (p := 6) rfl ?_); replace O := Aside0.mk (And.intro E.out.le O.out); replace E := Aside0.mk (E.out.alloc Z58 58 (g := w1_.heap.size) rfl); refine ev_storepart rfl 58 _ _ rfl rfl w1_.heap.size 0 d2_ [] Z58 [] rfl rfl (E.out.box 0 rfl) (by first | rfl | (simp only [aA, aN, aL]; first | done | rfl)) (rfl) (by rw [Ld2_.out]; rfl) (by rw [Ld2_.out]; kernel_rfl) Od2_.out ?_; intro W5_ hp hn; replace E := E.out.put2 0 hp hn (by have o := O.out; dsimp only [Off, OffA, Fct.box, Fct.made, List.set]; and_intros <;> first | trivial | omega); clear hp hn) | ((with_reducible refine gate_dst (N := 10) rfl ?_); refine ev_loadpart rfl 58 _ rfl w.heap.size 0 [] cs [] _ rfl (E.out.box 3 rfl) (by first | rfl | (simp only [aA, aN, aL]; first | done | rfl)) (rfl) Try.underlying58 rfl (by rw [Lcs.out]; kernel_rfl) ?_))
 ((with_reducible refine (readerAt_c ((a0, a1), x, rs, (y, (l0, l1, l2, l3, l4, l5), n), bw, bf) id (i : Int) _ (E.out.K KS.out) HR.out FL.out).mono ?_); rintro e w6_ ⟨rfl, hb⟩)
 replace E := Aside0.mk (E.out.call hb); clear hb
 go_wp2_with (first | ((with_reducible refine gate_dst (N := 17) rfl ?_); refine ev_loadcell rfl 54 _ rfl w1_.heap.size 6 (gD ++ gM) (.slice AG rs.length cG) (gT ++ ([.bool bw] ++ [.bool bf])) rfl (E.out.box 0 rfl) (by simp only [aA, aN, aL]; rw [Ed2_.out]; first | done | rfl | (simp only [aA, aN, aL]; first | done | rfl)) (by simp only [List.length_append, List.length_cons, List.length_nil, LgD.out, LgM.out]) Try.underlying54 rfl ?_))
 ((with_reducible refine (deleteR_c (z := ((a0, a1), x, rs, (y, (l0, l1, l2, l3, l4, l5), n), bw, bf)) (j := i + 1) (jv := wrap64 ((i : Int) + 1)) (by unfold wrap64; have := FL.out; have := HI.out; omega) rfl HI.out w _ E.out.below (by have h_ := E.out.made 1 rfl; rw [Ed2_.out] at h_; exact h_) LgD.out LgM.out).mono ?_); rintro e w7_ ⟨A2, n2, c2, rfl, M, hB, hK⟩)
 obtain ⟨e2, he2⟩ : ∃ e2, e2 = gD ++ (gM ++ ([.slice A2 n2 c2] ++ (gT ++ ([.bool bw] ++ [.bool bf])))) := ⟨_, rfl⟩
 rw [← he2] at M
 have Ee2 := Aside0.mk he2
 clear he2
 replace E := Aside0.mk (E.out.retold 1 rfl M hB hK (by have o := O.out; simp only [Off2, Off2.Off2A, List.set_cons_zero, List.set_cons_succ, Fct.box, Fct.made]; and_intros <;> first | trivial | omega)); clear M hB hK
 obtain ⟨c9_, Ec9_, Lc9_, Oc9_⟩ := lump_ (gD ++ (gM ++ ([.slice A2 n2 c2] ++ (gT ++ ([.bool bw] ++ [.bool bf]))))) 20 (by simp only [List.length_append, List.length_cons, List.length_nil, LgD.out, LgM.out, LgT.out]) (ones_app OgD.out (ones_app OgM.out (ones_app (ones1 rfl) (ones_app OgT.out (ones_app (ones1 rfl) (ones1 rfl))))))
 go_wp2_with (first | ((with_reducible refine gate_store (t := 54) (p := 22) rfl ?_); refine ev_storecell rfl 54 _ _ rfl rfl w1_.heap.size 6 (.slice A2 n2 c2) (.slice AG rs.length cG) (gD ++ gM) (gT ++ ([.bool bw] ++ [.bool bf])) rfl rfl (E.out.box 0 rfl) (by simp only [aA, aN, aL]; rw [Ed2_.out]; first | done | rfl | (simp only [aA, aN, aL]; first | done | rfl)) (by simp only [List.length_append, List.length_cons, List.length_nil, LgD.out, LgM.out]) (by kernel_rfl) rfl rfl ?_; intro W8_ hp hn; replace E := E.out.put2 0 hp hn (by have o := O.out; dsimp only [Off, OffA, Fct.box, Fct.made, List.set]; and_intros <;> first | trivial | omega); clear hp hn) | ((with_reducible refine gate_dst (N := 23) rfl ?_); refine ev_loadpart rfl 58 _ rfl w1_.heap.size 0 [] c9_ [] _ rfl (E.out.box 0 rfl) (by simp only [aA, aN, aL]; rw [Ec9_.out]; first | done | rfl | (simp only [aA, aN, aL]; first | done | rfl)) (rfl) Try.underlying58 rfl (by rw [Lc9_.out]; kernel_rfl) ?_) | ((with_reducible refine gate_store (t := 58) (p := 4) rfl ?_); refine ev_storepart rfl 58 _ _ rfl rfl (w.heap.size + 1) 0 c9_ [] Z58 [] rfl rfl (E.out.box 2 rfl) (by first | rfl | (simp only [aA, aN, aL]; first | done | rfl)) (rfl) (by rw [Lc9_.out]; rfl) (by rw [Lc9_.out]; kernel_rfl) Oc9_.out ?_; intro W10_ hp hn; replace E := E.out.put2 2 hp hn (by have o := O.out; dsimp only [Off, OffA, Fct.box, Fct.made, List.set]; and_intros <;> first | trivial | omega); clear hp hn))
 have BX := Aside0.mk (show _ = some (Obj.cells (c9_ : List Value).toArray 58 (0, 0)) from by first | exact (E.out.box 2 rfl) | simpa only [aA, aN, aL] using (E.out.box 2 rfl))
 refine bodyPost_ret (results_list (rs := [.cell 4 58, .tmp 5]) rfl (by simp) (.cell (w.heap.size + 1) 58 _ _ _ rfl BX.out Try.underlying58 rfl (by rw [List.size_toArray, show (c9_ : List Value).length = 20 from Lc9_.out]; kernel_rfl) (.tmp .nil))) rfl ?_
 exact ⟨_, rfl, (by rw [Ec9_.out, ← Ee2.out]; exact fresh (d := kStore) (E.out.made 1 rfl) (Nat.le_refl _)), E.out.below⟩
theorem specEnd_f (a0 : List ByteArray) (a1 : List S135) (x : S53) (rs : List S118) (y : S53) (l0 : List ByteArray) (l1 : List S135) (l2 : Int) (l3 l4 l5 : List Int) (n : Int) (bw bf : Bool) (id : Int) {cs : List Value} (w : World) (h : kStore.K w ((a0, a1), x, rs, (y, (l0, l1, l2, l3, l4, l5), n), bw, bf) cs) (f1 : a0.length ≤ 2000000 ∧ a1.length ≤ 2000000) (f2 : SmallM x) (f3 : ∀ r ∈ rs, SmallM r.f1) (f4 : SmallM y) (f5 : ((l0.length ≤ 2000000 ∧ l1.length ≤ 2000000) ∧ l3.length ≤ 2000000 ∧ l4.length ≤ 2000000 ∧ l5.length ≤ 2000000)) (hl : rs.length ≤ 2000000) (hr : At rs id (-1)) :
  Calls Try.prog 32 #[.agg cs.toArray, .int .i64 id] w fun e w' => ∃ ds : List Value, e = .returned (.tuple #[.agg ds.toArray, .int .i64 2]) ∧ kStore.M w' w.heap.size (Fr w w') ((a0, a1), x, rs, (y, (l0, l1, l2, l3, l4, l5), n), bw, bf) ds ∧ Below w.heap.size w w' := by
 have KS0 := h
 obtain ⟨cD, _, rfl, hD, cM, _, rfl, hM, cR, _, rfl, hR, cT, _, rfl, hT, cB, cF, rfl, hW, hF⟩ := h
 obtain rfl : cB = [.bool bw] := hW
 obtain rfl : cF = [.bool bf] := hF
 have hR2 := hR
 obtain ⟨AR, ccR, rfl, mR, rR⟩ := hR
 obtain ⟨cs, hcs⟩ : ∃ cs, cs = cD ++ (cM ++ ([.slice AR rs.length ccR] ++ (cT ++ ([.bool bw] ++ [.bool bf])))) := ⟨_, rfl⟩
 rw [← hcs] at KS0 ⊢
 have Ecs := Aside0.mk hcs
 have KS := Aside0.mk KS0
 have KD := Aside0.mk (show kDisk.K w (a0, a1) cD from hD)
 have KM := Aside0.mk (show k53.K w x cM from hM)
 have KR := Aside0.mk hR2
 have CR := Aside0.mk rR
 have KT := Aside0.mk (show kTxn.K w (y, (l0, l1, l2, l3, l4, l5), n) cT from hT)
 have LD := Aside0.mk (show cD.length = 2 from kDisk.K_len hD)
 have LM := Aside0.mk (show cM.length = 4 from k53.K_len hM)
 have LT := Aside0.mk (show cT.length = 11 from kTxn.K_len hT)
 have Lcs := Aside0.mk (show cs.length = 20 from kStore.K_len KS0)
 have F1 := Aside0.mk f1
 have F2 := Aside0.mk f2
 have F3 := Aside0.mk f3
 have F4 := Aside0.mk f4
 have F5 := Aside0.mk f5
 have FL := Aside0.mk hl
 clear KS0 hD hM hT hR2 mR rR hcs f1 f2 f3 f4 f5 hl
 have HR := Aside0.mk hr; clear hr
 have O := Aside0.mk (Nat.le_refl w.heap.size)
 have E := Aside0.mk (Env.start w)
 go_enter Try.func32, Try.ntmps32
 go_wp2_with (first | ((with_reducible refine gate_dst (N := 8) rfl ?_); replace O := Aside0.mk (And.intro E.out.le O.out); replace E := Aside0.mk (E.out.alloc cs 58 (g := w.heap.size) rfl); replace E := Aside0.mk (E.out.alloc Z58 58 (g := (w.heap.size + 1)) (by simp)); refine ev_loadpart rfl 58 _ rfl w.heap.size 0 [] cs [] _ rfl (E.out.box 1 rfl) (by first | rfl | (simp only [aA, aN, aL]; first | done | rfl)) (rfl) Try.underlying58 rfl (by rw [Lcs.out]; kernel_rfl) ?_))
 ((with_reducible refine (l12Copy_o a0 a1 x rs y l0 l1 l2 l3 l4 l5 n bw bf _ (E.out.K KS.out) F1.out F2.out F3.out F4.out F5.out FL.out).mono ?_); rintro e w1_ ⟨d2_, rfl, Md2_, hb⟩)
 have Ld2_ := Aside0.mk (show d2_.length = 20 from Kd.K_len _ (Kd.K_of_M _ Md2_)); have Od2_ := Aside0.mk (one_of_K (Kd.K_of_M _ Md2_))
 obtain ⟨n3_, m4_, hT, hE⟩ := E.out.made_ Md2_ hb; replace O := Aside0.mk (And.intro hT O.out); replace E := Aside0.mk hE; clear hT hE Md2_ hb
 go_wp2_with (first | ((with_reducible refine gate_store (t := 58) (p := 6) rfl ?_); replace O := Aside0.mk (And.intro E.out.le O.out); replace E := Aside0.mk (E.out.alloc Z58 58 (g := w1_.heap.size) rfl); refine ev_storepart rfl 58 _ _ rfl rfl w1_.heap.size 0 d2_ [] Z58 [] rfl rfl (E.out.box 0 rfl) (by first | rfl | (simp only [aA, aN, aL]; first | done | rfl)) (rfl) (by rw [Ld2_.out]; rfl) (by rw [Ld2_.out]; kernel_rfl) Od2_.out ?_; intro W5_ hp hn; replace E := E.out.put2 0 hp hn (by have o := O.out; dsimp only [Off, OffA, Fct.box, Fct.made, List.set]; and_intros <;> first | trivial | omega); clear hp hn) | ((with_reducible refine gate_dst (N := 10) rfl ?_); refine ev_loadpart rfl 58 _ rfl w.heap.size 0 [] cs [] _ rfl (E.out.box 3 rfl) (by first | rfl | (simp only [aA, aN, aL]; first | done | rfl)) (rfl) Try.underlying58 rfl (by rw [Lcs.out]; kernel_rfl) ?_))
 ((with_reducible refine (l12At_c ((a0, a1), x, rs, (y, (l0, l1, l2, l3, l4, l5), n), bw, bf) id (-1) _ (E.out.K KS.out) HR.out FL.out).mono ?_); rintro e w6_ ⟨rfl, hb⟩)
 replace E := Aside0.mk (E.out.call hb); clear hb
 go_wp2_with (first | ((with_reducible refine gate_dst (N := 15) rfl ?_); refine ev_loadpart rfl 58 _ rfl w1_.heap.size 0 [] d2_ [] _ rfl (E.out.box 0 rfl) (by first | rfl | (simp only [aA, aN, aL]; first | done | rfl)) (rfl) Try.underlying58 rfl (by rw [Ld2_.out]; kernel_rfl) ?_) | ((with_reducible refine gate_store (t := 58) (p := 4) rfl ?_); refine ev_storepart rfl 58 _ _ rfl rfl (w.heap.size + 1) 0 d2_ [] Z58 [] rfl rfl (E.out.box 2 rfl) (by first | rfl | (simp only [aA, aN, aL]; first | done | rfl)) (rfl) (by rw [Ld2_.out]; rfl) (by rw [Ld2_.out]; kernel_rfl) Od2_.out ?_; intro W7_ hp hn; replace E := E.out.put2 2 hp hn (by have o := O.out; dsimp only [Off, OffA, Fct.box, Fct.made, List.set]; and_intros <;> first | trivial | omega); clear hp hn))
 have BX := Aside0.mk (show _ = some (Obj.cells (d2_ : List Value).toArray 58 (0, 0)) from by first | exact (E.out.box 2 rfl) | simpa only [aA, aN, aL] using (E.out.box 2 rfl))
 refine bodyPost_ret (results_list (rs := [.cell 4 58, .tmp 5]) rfl (by simp) (.cell (w.heap.size + 1) 58 _ _ _ rfl BX.out Try.underlying58 rfl (by rw [List.size_toArray, show (d2_ : List Value).length = 20 from Ld2_.out]; kernel_rfl) (.tmp .nil))) rfl ?_
 exact ⟨_, rfl, (fresh (d := kStore) (E.out.made 1 rfl) (Nat.le_refl _)), E.out.below⟩
section
variable {P : Program} {ops : Array Oper} {Q : Exit → Act → World → Prop} {G : Act → World → Prop} {N : Option Tmp} {o : Oper} {a : Act} {w0 W : World} {top : Nat} {fs : List Fct}
theorem ev1_appendmore (E : Env w0 W top fs) (hN : o.dst = N) (hw : Region.wanted o (yielded ops a.tmps) = true) (s x : Operand) (t e : TypeId) (z : Value) (bytes : Nat)
  (ho : o.op = .call { callee := .builtin .append, args := #[s, x], argTypes := #[t, t] }) {α : Type} (d : Kd α) (hE : d.E = [])
  (ht : P.underlying t = some (.slice e)) (hinfo : (P.info? e).map (fun i => (i.zero, i.size, i.bytes)) = some (some z, d.sz, bytes)) (hz : z.cells.size = d.sz) (hs0 : 0 < d.sz) (hb0 : 0 < bytes)
  (i : Nat) {g : Nat} {v : Value} {xs ys : List α} (hf : fs[i]? = some (Fct.made (Own.srow e d) w0.heap.size g (g + 1) (fun _ => True) xs [v])) {A : Option Addr} {m c : Nat} (hC : d.C W A m ys) (hKM : ∀ x cs, d.K W x cs → d.M W w0.heap.size (fun _ => False) x cs)
  (hs : a.eval s = v) (hx : a.eval x = .slice A m c) (hl : (xs.length + m) * bytes ≤ 140737488355328) (hgt : g + 1 ≤ top) (hoff : Off2 g (g + 1) fs i)
  (h : ∀ v1 w1 b t1, (b = g ∨ top ≤ b) ∧ b + 1 ≤ t1 ∧ top ≤ t1 → Env w0 w1 t1 (fs.set i (Fct.made (Own.srow e d) w0.heap.size b (b + 1) (fun _ => True) (xs ++ ys) [v1])) → G (a.put N v1) w1) : Ev1 P o ops Q a W G := by
 intro K hK
 subst hN
 obtain ⟨v', hv, hS⟩ := E.made i hf
 injection hv with hv
 subst hv
 have hown : ∀ k, v.ownBlock = some k → True ∧ Iv g (g + 1) k := hS.choose_spec.1
 refine Kd.R_append_rows_step d (Rr := d.K W) (w0 := w0) w0.heap.size hw s x t e z bytes ho ht hinfo hz hs0 hb0 v xs ys A m c (fun _ => True) (fun _ => False) hs hx (Kd.R_mono (Kd.S_R hS) (fun _ _ => trivial)) hC hKM (fun _ h => h.elim) (fun _ _ => trivial) E.below E.below.size hl ?_
 intro v1 w1 hR1 hB hg hat
 have hM := Own.srow_of_R hE hR1
 have fin : ∀ b, (b = g ∨ top ≤ b) → b + 1 ≤ w1.heap.size → (∀ k, some k = v1.ownBlock → k = b) → K (a.put o.dst v1) w1 := fun b h1 h2 h3 => by
  refine hK.out _ _ (h v1 w1 b w1.heap.size ⟨h1, h2, Nat.le_trans E.le hg.size⟩ ⟨hB, Nat.le_refl _, hB.size, All.off2 (fun k hk hk2 => hg.block k (Nat.lt_of_lt_of_le hk E.le) (fun e => ?_)) (Nat.le_trans E.le hg.size) (f' := Fct.made (Own.srow e d) w0.heap.size b (b + 1) (fun _ => True) (xs ++ ys) [v1]) h2 ?_ i E.all hoff⟩)
  ·have := (hown k e.symm).2
   obtain ⟨q1, q2⟩ := this
   omega
  ·exact (Own.srow e d).M_mono (fun k hk => ⟨trivial, by rw [h3 k hk]; exact ⟨Nat.le_refl _, Nat.lt_succ_self _⟩⟩) hM
 rcases hat with hat | ⟨b, hb, hle⟩
 ·refine fin g (.inl rfl) (Nat.le_trans hgt (Nat.le_trans E.le hg.size)) (fun k hk => ?_)
  rw [hat] at hk
  have := (hown k hk.symm).2
  obtain ⟨q1, q2⟩ := this
  omega
 ·refine fin b (.inr (Nat.le_trans E.le hle)) (Kd.R_lt hR1 b hb) (fun k hk => ?_)
  rw [hb] at hk
  injection hk
end
theorem S_take {zs : List S118} {i : Nat} (hi : i < zs.length) {w : World} {base : Nat} {ok : Nat → Prop} {v : Value} (h : Kd.S k118 118 w base ok v zs) :
  ∃ (g cap : Nat) (ys : List (List Value)), v = .slice (some ⟨g, 0, none⟩) zs.length cap ∧ zs.length ≤ cap ∧ ys.length = zs.length ∧ ∀ w' : World, (∀ k, ok k → k < w.heap.size → w'.heap[k]? = w.heap[k]?) → (Kd.raw 5).C w' (some ⟨g, 0, none⟩) i (ys.take i) ∧ (∀ A, (i + 1 < zs.length → A = some ⟨g, (i + 1) * 5, none⟩) → (Kd.raw 5).C w' A (zs.length - (i + 1)) (ys.drop (i + 1))) ∧
   ∀ (u : Value) (okb : Nat → Prop), (∀ k, okb k → ¬ ok k) → (Own.srow 118 (Kd.raw 5)).M w' base okb (ys.take i ++ ys.drop (i + 1)) [u] → Kd.S k118 118 w' base (fun k => ok k ∨ okb k) u (zs.eraseIdx i) := by
 obtain ⟨f, h0, inner, ho, hr⟩ := h
 have hsz : (Kd.tag f k118).sz = 5 := rfl
 rw [hsz] at ho hr
 rw [List.length_zipIdx] at ho
 have hil : inner.length = zs.length * 5 := ho.1
 have hlen : zs.length ≤ 9223372036854775807 := by
  rcases ho.2 with ⟨rfl, hn⟩ | ⟨g, cap, cur, rfl, hg, hb, hnc, hcm, hcs, hcur⟩
  ·omega
  ·exact Nat.le_trans hnc hcm
 rcases ho.2 with ⟨rfl, hn⟩ | ⟨g, cap, cur, rfl, hg, hb, hnc, hcm, hcs, hcur⟩
 ·omega
 ·obtain ⟨ys, hys⟩ : ∃ ys : List (List Value), ys = (List.range zs.length).map (fun m => (inner.drop (m * 5)).take 5) := ⟨_, rfl⟩
  have hyl : ys.length = zs.length := by rw [hys, List.length_map, List.length_range]
  have hy : ∀ m, m < zs.length → ys[m]? = some ((inner.drop (m * 5)).take 5) := fun m hm => by rw [hys, List.getElem?_map, List.getElem?_range hm]; rfl
  have hcell : ∀ w' : World, (∀ k, ok k → k < w.heap.size → w'.heap[k]? = w.heap[k]?) → ∀ q u, inner[q]? = some u → w'.cell? ⟨g, q, none⟩ = some u := fun w' hm q u hq => by
   rw [blk_cell ((hm g (h0 g rfl) (blk_lt hb)).trans hb), ← hq, ← hcur, List.getElem?_take, if_pos (by have := (List.getElem?_eq_some_iff.1 hq).1; omega), Array.getElem?_toList]
  have key : ∀ m (hm : m < zs.length), k118.M w base (fun k => (ok k ∧ some k ≠ (Value.slice (some ⟨g, 0, none⟩) zs.length cap).ownBlock) ∧ f k = m) zs[m] ((inner.drop (m * 5)).take 5) := fun m hm => hr.2 m (zs[m], m) (Kd.zip_at (List.getElem?_eq_getElem hm))
  have hraw : ∀ m (hm : m < zs.length), (Kd.raw 5).K w ((inner.drop (m * 5)).take 5) ((inner.drop (m * 5)).take 5) := fun m hm => ⟨rfl, k118.K_len (k118.K_of_M (key m hm)), k118.K_one (k118.K_of_M (key m hm))⟩
  refine ⟨g, cap, ys, rfl, hnc, hyl, fun w' hsame => ⟨⟨by rw [List.length_take, hyl]; omega, by omega, fun hn => ⟨_, rfl, fun m p hp => ?_⟩⟩, fun A hA => ⟨by rw [List.length_drop, hyl], by omega, fun hn => ⟨_, hA (by omega), fun m p hp => ?_⟩⟩, ?_⟩⟩
  ·rw [List.getElem?_take] at hp
   split at hp
   ·rename_i hm
    rw [hy m (by omega)] at hp
    injection hp with hp
    subst hp
    refine ⟨_, (hraw m (by omega)).2.1, hraw m (by omega), fun q u hq => ?_⟩
    rw [Addr.add_lit, Nat.zero_add]
    have hq5 := (List.getElem?_eq_some_iff.1 hq).1
    rw [(hraw m (by omega)).2.1] at hq5
    rw [List.getElem?_take, if_pos hq5, List.getElem?_drop] at hq
    exact hcell w' hsame _ _ hq
   ·cases hp
  ·rw [List.getElem?_drop] at hp
   have hm : i + 1 + m < zs.length := by have := (List.getElem?_eq_some_iff.1 hp).1; omega
   rw [hy _ hm] at hp
   injection hp with hp
   subst hp
   refine ⟨_, (hraw _ hm).2.1, hraw _ hm, fun q u hq => ?_⟩
   rw [Addr.add_lit]
   have hq5 := (List.getElem?_eq_some_iff.1 hq).1
   rw [(hraw _ hm).2.1] at hq5
   rw [List.getElem?_take, if_pos hq5, List.getElem?_drop] at hq
   show w'.cell? ⟨g, (i + 1) * 5 + (m * 5 + q), none⟩ = some u
   rw [show (i + 1) * 5 + (m * 5 + q) = (i + 1 + m) * 5 + q by omega]
   exact hcell w' hsame _ _ hq
  ·rintro u okb hokb ⟨u', hu, hS⟩
   injection hu with hu
   subst hu
   obtain ⟨hb0, inner2, ho2, hr2⟩ := Kd.S_R hS
   have hel : (zs.eraseIdx i).length = zs.length - 1 := by rw [List.length_eraseIdx, if_pos hi]
   have hyl2 : (ys.take i ++ ys.drop (i + 1)).length = zs.length - 1 := by rw [List.length_append, List.length_take, List.length_drop, hyl]; omega
   rw [hyl2] at ho2
   refine ⟨fun k => if f k < i then f k else if f k = i then zs.length else f k - 1, fun k hk => Or.inr (hb0 k hk), inner2, by rw [List.length_zipIdx, hel]; exact ho2, ?_, ?_⟩
   ·rw [List.length_zipIdx, hel, ho2.1]
    rfl
   ·intro m p hp2
    have hm := (List.getElem?_eq_some_iff.1 hp2).1
    rw [List.length_zipIdx, hel] at hm
    have hpe : p = ((zs.eraseIdx i)[m]'(by omega), m) := by
     rw [Kd.zip_at (List.getElem?_eq_getElem (by omega))] at hp2
     exact (Option.some.inj hp2).symm
    subst hpe
    have mv : ∀ m2 (h2 : m2 < zs.length), k118.M w' base (fun k => (ok k ∧ True) ∧ f k = m2) zs[m2] ((inner.drop (m2 * 5)).take 5) := fun m2 h2 => k118.M_mono (fun k hk => ⟨⟨hk.1.1, trivial⟩, hk.2⟩) (Kd.M_step (key m2 h2) (fun k hk hlt => hsame k hk.1.1 hlt))
    have ap : ∀ k, ok k → some k ≠ u.ownBlock := fun k hk e => hokb k (hb0 k e.symm) hk
    rcases Nat.lt_or_ge m i with hmi | hmi
    ·have hc := (hr2.2 m ((inner.drop (m * 5)).take 5) (by rw [List.getElem?_append_left (by rw [List.length_take, hyl]; omega), List.getElem?_take, if_pos hmi, hy m (by omega)])).1
     show k118.M w' base _ ((zs.eraseIdx i)[m]'(by omega)) (List.take 5 (List.drop (m * 5) inner2))
     rw [List.getElem_eraseIdx, dif_pos hmi, show List.take 5 (List.drop (m * 5) inner2) = _ from hc]
     exact k118.M_mono (fun k hk => ⟨⟨Or.inl hk.1.1, ap k hk.1.1⟩, by show (if f k < i then f k else _) = m; rw [if_pos (by rw [hk.2]; exact hmi)]; exact hk.2⟩) (mv m (by omega))
    ·have hc := (hr2.2 m ((inner.drop ((m + 1) * 5)).take 5) (by rw [List.getElem?_append_right (by rw [List.length_take, hyl]; omega), List.getElem?_drop, List.length_take, hyl, show i + 1 + (m - min i zs.length) = m + 1 by omega, hy (m + 1) (by omega)])).1
     show k118.M w' base _ ((zs.eraseIdx i)[m]'(by omega)) (List.take 5 (List.drop (m * 5) inner2))
     rw [List.getElem_eraseIdx, dif_neg (by omega), show List.take 5 (List.drop (m * 5) inner2) = _ from hc]
     exact k118.M_mono (fun k hk => ⟨⟨Or.inl hk.1.1, ap k hk.1.1⟩, by show (if f k < i then f k else if f k = i then zs.length else f k - 1) = m; rw [if_neg (by rw [hk.2]; omega), if_neg (by rw [hk.2]; omega), hk.2]; rfl⟩) (mv (m + 1) (by omega))
theorem takeR_c {z : ((List ByteArray × List S135) × S53 × List S118 × (S53 × (List ByteArray × List S135 × Int × List Int × List Int × List Int) × Int) × Bool × Bool)} {i : Nat} (hi : i < z.2.2.1.length) {cD cM c3 : List Value} {v : Value} {base : Nat} {ok : Nat → Prop} (w : World) (h : kStore.M w base ok z (cD ++ (cM ++ ([v] ++ c3)))) (hD : cD.length = 2) (hM : cM.length = 4) :
  ∃ (g cap : Nat) (ys : List (List Value)), v = .slice (some ⟨g, 0, none⟩) z.2.2.1.length cap ∧ z.2.2.1.length ≤ cap ∧ ys.length = z.2.2.1.length ∧ ∀ w' : World, (∀ k, ok k → k < w.heap.size → w'.heap[k]? = w.heap[k]?) → (Kd.raw 5).C w' (some ⟨g, 0, none⟩) i (ys.take i) ∧ (∀ A, (i + 1 < z.2.2.1.length → A = some ⟨g, (i + 1) * 5, none⟩) → (Kd.raw 5).C w' A (z.2.2.1.length - (i + 1)) (ys.drop (i + 1))) ∧
   ∀ (u : Value) (okb : Nat → Prop), (∀ k, okb k → ¬ ok k) → (Own.srow 118 (Kd.raw 5)).M w' base okb (ys.take i ++ ys.drop (i + 1)) [u] → kStore.M w' base (fun k => ok k ∨ okb k) (z.1, z.2.1, z.2.2.1.eraseIdx i, z.2.2.2) (cD ++ (cM ++ ([u] ++ c3))) := by
 obtain ⟨c0, c1, o0, o1, e, m0, h, a0, b0, x0⟩ := Own.apair_open h
 obtain ⟨rfl, rfl⟩ := List.append_inj e (hD.trans (kDisk.K_len (kDisk.K_of_M m0)).symm)
 obtain ⟨c2, c4, o2, o3, e, m1, h, a1, b1, x1⟩ := Own.apair_open h
 obtain ⟨rfl, rfl⟩ := List.append_inj e (hM.trans (k53.K_len (k53.K_of_M m1)).symm)
 obtain ⟨c5, c6, o4, o5, e, m2, m3, a2, b2, x2⟩ := Own.apair_open h
 obtain ⟨v', rfl, hS⟩ := m2
 obtain ⟨e1, rfl⟩ := List.append_inj e rfl
 injection e1 with e1
 subst e1
 obtain ⟨g, cap, ys, hv, hnc, hyl, hall⟩ := S_take hi hS
 refine ⟨g, cap, ys, hv, hnc, hyl, fun w' hsame => ?_⟩
 obtain ⟨q1, q2, q3⟩ := hall w' (fun k hk => hsame k (b0 k (b1 k (a2 k hk))))
 refine ⟨q1, q2, fun u okb hokb hu => ?_⟩
 have hS2 := q3 u okb (fun k hk h4 => hokb k hk (b0 k (b1 k (a2 k h4)))) hu
 exact Own.apair_mk (okB := fun k => o1 k ∨ okb k) (Kd.M_step m0 (fun k hk => hsame k (a0 k hk))) (Own.apair_mk (okB := fun k => o3 k ∨ okb k) (Kd.M_step m1 (fun k hk => hsame k (b0 k (a1 k hk)))) (Own.apair_mk (okA := fun k => o4 k ∨ okb k) (show (Own.srow 118 k118).M w' base (fun k => o4 k ∨ okb k) _ [u] from ⟨u, rfl, hS2⟩) (Kd.M_step m3 (fun k hk => hsame k (b0 k (b1 k (b2 k hk))))) (fun k hk => hk.elim (fun h => Or.inl (a2 k h)) Or.inr) (fun k hk => Or.inl (b2 k hk)) (fun k h1 h2 => h1.elim (fun h => x2 k h h2) (fun h => hokb k h (b0 k (b1 k (b2 k h2)))))) (fun k hk => Or.inl (a1 k hk)) (fun k hk => hk.elim (fun h => Or.inl (b1 k h)) Or.inr) (fun k h1 h2 => h2.elim (x1 k h1) (fun h => hokb k h (b0 k (a1 k h1))))) (fun k hk => Or.inl (a0 k hk)) (fun k hk => hk.elim (fun h => Or.inl (b0 k h)) Or.inr) (fun k h1 h2 => h2.elim (x0 k h1) (fun h => hokb k h (a0 k h1)))
def Fct.same (w : World) (lo hi : Nat) : Fct := ⟨lo, hi, fun W => ∀ k, Iv lo hi k → W.heap[k]? = w.heap[k]?, fun h hp k hk => (h k hk.1 hk.2).trans (hp k hk)⟩
def specEnd_t_T5 : Bool × List (List Nat × List Nat) := (true, [([], []), ([], []), ([1], [1]), ([], []), ([2, 3], [2, 3]), ([0, 4], [0, 4]), ([], []), ([6], [6]), ([], []), ([8], [8]), ([7, 9], [7, 9]), ([5, 10, 5], [5, 10]), ([0, 1, 2, 3, 4, 5, 6, 7, 8, 9, 10, 11], []), ([12, 11, 11, 0, 1, 2, 3, 4, 5, 6, 7, 8, 9, 10, 11], [11, 12])])
def specEnd_t_B5 : List Nat := [0, 0, 2, 0, 14, 31, 0, 64, 0, 256, 960, 2047, 4095, 8191]
theorem specEnd_t_ok5_0 : regT (opsOf Try.f32 5) specEnd_t_T5 specEnd_t_B5 [13] (.p 1 (.t 2 (.p 3 (.p 4 (.p 6 (.t 7 (.p 8 (.p 9 (.p 10 (.e 0 (.e 5 (.e 11 (.p 12 (.l 13 .d)))))))))))))) = true := by kernel_rfl
theorem specEnd_t (a0 : List ByteArray) (a1 : List S135) (x : S53) (rs : List S118) (y : S53) (l0 : List ByteArray) (l1 : List S135) (l2 : Int) (l3 l4 l5 : List Int) (n : Int) (bw bf : Bool) (id : Int) (i : Nat) {cs : List Value} (w : World) (h : kStore.K w ((a0, a1), x, rs, (y, (l0, l1, l2, l3, l4, l5), n), bw, bf) cs) (f1 : a0.length ≤ 2000000 ∧ a1.length ≤ 2000000) (f2 : SmallM x) (f3 : ∀ r ∈ rs, SmallM r.f1) (f4 : SmallM y) (f5 : ((l0.length ≤ 2000000 ∧ l1.length ≤ 2000000) ∧ l3.length ≤ 2000000 ∧ l4.length ≤ 2000000 ∧ l5.length ≤ 2000000)) (hl : rs.length ≤ 2000000) (hr : At rs id (i : Int)) (hi : i < rs.length) :
  Calls Try.prog 32 #[.agg cs.toArray, .int .i64 id] w fun e w' => ∃ ds : List Value, e = .returned (.tuple #[.agg ds.toArray, .int .i64 0]) ∧ kStore.M w' w.heap.size (Fr w w') ((a0, a1), x, rs.eraseIdx i, (y, (l0, l1, l2, l3, l4, l5), n), bw, bf) ds ∧ Below w.heap.size w w' := by
 have KS0 := h
 obtain ⟨cD, _, rfl, hD, cM, _, rfl, hM, cR, _, rfl, hR, cT, _, rfl, hT, cB, cF, rfl, hW, hF⟩ := h
 obtain rfl : cB = [.bool bw] := hW
 obtain rfl : cF = [.bool bf] := hF
 have hR2 := hR
 obtain ⟨AR, ccR, rfl, mR, rR⟩ := hR
 obtain ⟨cs, hcs⟩ : ∃ cs, cs = cD ++ (cM ++ ([.slice AR rs.length ccR] ++ (cT ++ ([.bool bw] ++ [.bool bf])))) := ⟨_, rfl⟩
 rw [← hcs] at KS0 ⊢
 have Ecs := Aside0.mk hcs
 have KS := Aside0.mk KS0
 have KD := Aside0.mk (show kDisk.K w (a0, a1) cD from hD)
 have KM := Aside0.mk (show k53.K w x cM from hM)
 have KR := Aside0.mk hR2
 have CR := Aside0.mk rR
 have KT := Aside0.mk (show kTxn.K w (y, (l0, l1, l2, l3, l4, l5), n) cT from hT)
 have LD := Aside0.mk (show cD.length = 2 from kDisk.K_len hD)
 have LM := Aside0.mk (show cM.length = 4 from k53.K_len hM)
 have LT := Aside0.mk (show cT.length = 11 from kTxn.K_len hT)
 have Lcs := Aside0.mk (show cs.length = 20 from kStore.K_len KS0)
 have F1 := Aside0.mk f1
 have F2 := Aside0.mk f2
 have F3 := Aside0.mk f3
 have F4 := Aside0.mk f4
 have F5 := Aside0.mk f5
 have FL := Aside0.mk hl
 clear KS0 hD hM hT hR2 mR rR hcs f1 f2 f3 f4 f5 hl
 have HR := Aside0.mk hr; have HI := Aside0.mk hi; clear hr hi
 have d14 : decide ((i : Int) < 0) = false := decide_eq_false (by omega)
 have O := Aside0.mk (Nat.le_refl w.heap.size)
 have E := Aside0.mk (Env.start w)
 go_enter Try.func32, Try.ntmps32
 go_wp2_with (first | ((with_reducible refine gate_dst (N := 8) rfl ?_); replace O := Aside0.mk (And.intro E.out.le O.out); replace E := Aside0.mk (E.out.alloc cs 58 (g := w.heap.size) rfl); replace E := Aside0.mk (E.out.alloc Z58 58 (g := (w.heap.size + 1)) (by simp)); refine ev_loadpart rfl 58 _ rfl w.heap.size 0 [] cs [] _ rfl (E.out.box 1 rfl) (by first | rfl | (simp only [aA, aN, aL]; first | done | rfl)) (rfl) Try.underlying58 rfl (by rw [Lcs.out]; kernel_rfl) ?_))
 ((with_reducible refine (l12Copy_o a0 a1 x rs y l0 l1 l2 l3 l4 l5 n bw bf _ (E.out.K KS.out) F1.out F2.out F3.out F4.out F5.out FL.out).mono ?_); rintro e w1_ ⟨d2_, rfl, Md2_, hb⟩)
 have Ld2_ := Aside0.mk (show d2_.length = 20 from Kd.K_len _ (Kd.K_of_M _ Md2_)); have Od2_ := Aside0.mk (one_of_K (Kd.K_of_M _ Md2_))
 obtain ⟨n3_, m4_, hT, hE⟩ := E.out.made_ Md2_ hb; replace O := Aside0.mk (And.intro hT O.out); replace E := Aside0.mk hE; clear hT hE Md2_ hb
 obtain ⟨gD, gM, AG, cG, gT, hg, lD, lM, lT, hR⟩ := kStore_parts (E.out.made 0 rfl)
 have Ed2_ := Aside0.mk hg; have LgD := Aside0.mk lD; have LgM := Aside0.mk lM; have LgT := Aside0.mk lT
 clear hg lD lM lT hR
 have OgD := Aside0.mk (fun v hv => Od2_.out v (by rw [Ed2_.out]; simp only [List.mem_append]; exact Or.inl hv))
 have OgM := Aside0.mk (fun v hv => Od2_.out v (by rw [Ed2_.out]; simp only [List.mem_append]; exact Or.inr (Or.inl hv)))
 have OgT := Aside0.mk (fun v hv => Od2_.out v (by rw [Ed2_.out]; simp only [List.mem_append]; exact Or.inr (Or.inr (Or.inr (Or.inl hv)))))
 go_wp2_with (first | ((with_reducible refine gate_store (t := 58) (p := 6) rfl ?_); replace O := Aside0.mk (And.intro E.out.le O.out); replace E := Aside0.mk (E.out.alloc Z58 58 (g := w1_.heap.size) rfl); refine ev_storepart rfl 58 _ _ rfl rfl w1_.heap.size 0 d2_ [] Z58 [] rfl rfl (E.out.box 0 rfl) (by first | rfl | (simp only [aA, aN, aL]; first | done | rfl)) (rfl) (by rw [Ld2_.out]; rfl) (by rw [Ld2_.out]; kernel_rfl) Od2_.out ?_; intro W5_ hp hn; replace E := E.out.put2 0 hp hn (by have o := O.out; dsimp only [Off, OffA, Fct.box, Fct.made, Fct.same, Fct.nil, List.set]; and_intros <;> first | trivial | omega); clear hp hn) | ((with_reducible refine gate_dst (N := 10) rfl ?_); refine ev_loadpart rfl 58 _ rfl w.heap.size 0 [] cs [] _ rfl (E.out.box 3 rfl) (by first | rfl | (simp only [aA, aN, aL]; first | done | rfl)) (rfl) Try.underlying58 rfl (by rw [Lcs.out]; kernel_rfl) ?_))
 ((with_reducible refine (l12At_c ((a0, a1), x, rs, (y, (l0, l1, l2, l3, l4, l5), n), bw, bf) id (i : Int) _ (E.out.K KS.out) HR.out FL.out).mono ?_); rintro e w6_ ⟨rfl, hb⟩)
 replace E := Aside0.mk (E.out.call hb); clear hb
 go_upto_region 5 with (fail)
 obtain ⟨g_, cap_, ys, hv_, hcap, hyl, hT⟩ := takeR_c (z := ((a0, a1), x, rs, (y, (l0, l1, l2, l3, l4, l5), n), bw, bf)) HI.out _ (by have h_ := E.out.made 1 rfl; rw [Ed2_.out] at h_; exact h_) LgD.out LgM.out
 injection hv_ with hv1 hv2 hv3; subst hv1; subst hv3; clear hv2; obtain ⟨j, hj⟩ : ∃ j, j = i + 1 := ⟨_, rfl⟩; simp only [← hj] at hT; have HT := Aside0.mk hT; have HC := Aside0.mk (show rs.length ≤ cG from hcap); have HY := Aside0.mk (show ys.length = rs.length from hyl); clear hT hcap hyl
 have HJ := Aside0.mk hj
 have hij : i ≤ j := by omega
 have hjc : j ≤ cG := by have := HC.out; have := HI.out; omega
 have hic : i ≤ cG := by omega
 have hjn : j ≤ rs.length := by have := HI.out; omega
 clear hj
 replace E := Aside0.mk ((E.out.add (Fct.same w6_ n3_ m4_) (by have o := O.out; have e := E.out.le; show m4_ ≤ _; omega) (fun _ _ => rfl)).add Fct.nil (Nat.zero_le _) trivial)
 go_upto_region 5 with (fail)
 replace E := Aside0.mk E.out.drew
 refine tre_start specEnd_t_ok5_0 (S := fun w' => w'.heap[w1_.heap.size]? = some (.cells (([] ++ (d2_ ++ [])) : List Value).toArray 58 (0, 0)) ∧ True) (by kernel_rfl) (fun _ _ _ _ h => h) ⟨(E.out.box 2 rfl), trivial⟩ (fun hHeld => ?_)
 generalize hq : World.drew _ = w7_ at hHeld ⊢; replace E := E.out.to hq; clear hq
 (refine tre_p (v := ?_) (a' := ?_) rfl rfl (Or.inl ⟨by rfl, ?_⟩) ?_ ?_; rotate_left; (· intro w'; go_simp; with_reducible rfl); rotate_left; (· show Act.put _ (some _) _ = _; simp only [Act.put, s_A, s_0, s_1, i64_w]; try rfl))
 refine tre_loadcell (a' := ?ax8_) rfl rfl (by rfl) 54 _ rfl w1_.heap.size 6 (gD ++ gM) (.slice (some ⟨g_, 0, none⟩) rs.length cG) (gT ++ ([.bool bw] ++ [.bool bf])) _ rfl (fun w' hs => hs.1) (by simp only [aA, aN, aL]; rw [Ed2_.out]; first | done | rfl | (simp only [aA, aN, aL]; first | done | rfl)) (by simp only [List.length_append, List.length_cons, List.length_nil, LgD.out, LgM.out]) Try.underlying54 rfl ?px8_ ?kx8_
 case px8_ => (show Act.put _ (some _) _ = _; simp only [Act.put, s_A, s_0, s_1, i64_w]; try rfl)
 iterate 3 (refine tre_p (v := ?_) (a' := ?_) rfl rfl (Or.inl ⟨by rfl, ?_⟩) ?_ ?_; rotate_left; (· intro w'; go_simp; with_reducible rfl); rotate_left; (· show Act.put _ (some _) _ = _; simp only [Act.put, s_A, s_0, s_1, i64_w]; try rfl))
 refine tre_loadcell (a' := ?ax9_) rfl rfl (by rfl) 54 _ rfl w1_.heap.size 6 (gD ++ gM) (.slice (some ⟨g_, 0, none⟩) rs.length cG) (gT ++ ([.bool bw] ++ [.bool bf])) _ rfl (fun w' hs => hs.1) (by simp only [aA, aN, aL]; rw [Ed2_.out]; first | done | rfl | (simp only [aA, aN, aL]; first | done | rfl)) (by simp only [List.length_append, List.length_cons, List.length_nil, LgD.out, LgM.out]) Try.underlying54 rfl ?px9_ ?kx9_
 case px9_ => (show Act.put _ (some _) _ = _; simp only [Act.put, s_A, s_0, s_1, i64_w]; try rfl)
 (refine tre_p (v := ?_) (a' := ?_) rfl rfl (Or.inl ⟨by rfl, ?_⟩) ?_ ?_; rotate_left; (· intro w'; go_simp; with_reducible rfl); rotate_left; (· show Act.put _ (some _) _ = _; simp only [Act.put, s_A, s_0, s_1, i64_w]; try rfl))
 refine tre_p (v := .int .i64 (j : Int)) (a' := ?_) rfl rfl (Or.inl ⟨by rfl, ?_⟩) ?_ ?_; (· intro w'; have e_ : wrap64 ((i : Int) + 1) = (j : Int) := (by unfold wrap64; have := FL.out; have := HI.out; have := HJ.out; omega); go_simp; first | exact e_ | (simp only [i64_w]; exact e_) | rw [e_]); rotate_left; (· show Act.put _ (some _) _ = _; simp only [Act.put, s_A, s_0, s_1, i64_w]; try rfl)
 (refine tre_p (v := ?_) (a' := ?_) rfl rfl (Or.inl ⟨by rfl, ?_⟩) ?_ ?_; rotate_left; (· intro w'; go_simp; with_reducible rfl); rotate_left; (· show Act.put _ (some _) _ = _; simp only [Act.put, s_A, s_0, s_1, i64_w]; try rfl))
 refine tre_e rfl (ev1_lit0 E.out 0 rfl (by rfl) 54 118 rfl Try.underlying54 5 (by kernel_rfl) (Kd.raw 5) (fun gN WL hg hE => ?_))
 have O2 := Aside0.mk (And.intro hg O.out); clear O; have O := Aside0.mk O2.out; clear O2; replace E := Aside0.mk hE; clear hg hE
 refine ⟨⟨(E.out.box 2 rfl), trivial⟩, (fun hHeld => ?_)⟩
 refine tre_norm (a' := ?_) ?_ ?_; rotate_left; (· show Act.put _ (some 16) _ = _; simp only [Act.put, s_A, s_0, s_1, i64_w]; try rfl)
 refine tre_e rfl (ev1_appendmore E.out rfl (by rfl) _ _ 54 118 (.agg #[.int .i64 0, .int .i64 0, .int .i64 0, .int .i64 0, .slice none 0 0]) 56 rfl (Kd.raw 5) rfl Try.underlying54 info118 rfl (by decide) (by decide) 0 (g := gN) (xs := []) (ys := (ys.take i)) rfl (HT.out _ (fun k hk _ => E.out.get 1 rfl k hk.2)).1 (fun _ _ h => h) rfl rfl (by have := FL.out; have := HY.out; have := HI.out; (try simp only [List.length_append, List.length_take, List.length_drop, List.length_nil]); omega) (by have o := O.out; omega) (by have o := O.out; simp only [Off2, Off2.Off2A, List.set_cons_zero, List.set_cons_succ, Fct.box, Fct.made, Fct.same, Fct.nil]; and_intros <;> first | trivial | omega) (fun vp Wp bp tp hg hE => ?_))
 have O2 := Aside0.mk (And.intro hg O.out); clear O; have O := Aside0.mk O2.out; clear O2; replace E := Aside0.mk hE; clear hg hE
 obtain ⟨Ap, cp, hv, -⟩ := E.out.mk_ 0 rfl; injection hv with hv; subst hv
 obtain ⟨np, hn⟩ : ∃ m, m = ([] ++ (ys.take i)).length := ⟨_, rfl⟩; try simp only [← hn] at E; try simp only [← hn]; clear hn
 refine ⟨⟨(E.out.box 2 rfl), trivial⟩, (fun hHeld => ?_)⟩
 refine tre_norm (a' := ?_) ?_ ?_; rotate_left; (· show Act.put _ (some 21) _ = _; simp only [Act.put, s_A, s_0, s_1, i64_w]; try rfl)
 refine tre_e rfl (ev1_appendmore E.out rfl (by rfl) _ _ 54 118 (.agg #[.int .i64 0, .int .i64 0, .int .i64 0, .int .i64 0, .slice none 0 0]) 56 rfl (Kd.raw 5) rfl Try.underlying54 info118 rfl (by decide) (by decide) 0 (g := bp) (xs := ([] ++ ys.take i)) (ys := (ys.drop j)) rfl ((HT.out _ (fun k hk _ => E.out.get 1 rfl k hk.2)).2.1 _ (fun h => if_neg (by have := HC.out; omega))) (fun _ _ h => h) rfl rfl (by have := FL.out; have := HY.out; have := HI.out; (try simp only [List.length_append, List.length_take, List.length_drop, List.length_nil]); omega) (by have o := O.out; omega) (by have o := O.out; simp only [Off2, Off2.Off2A, List.set_cons_zero, List.set_cons_succ, Fct.box, Fct.made, Fct.same, Fct.nil]; and_intros <;> first | trivial | omega) (fun vq Wq bq tq hg hE => ?_))
 have O2 := Aside0.mk (And.intro hg O.out); clear O; have O := Aside0.mk O2.out; clear O2; replace E := Aside0.mk hE; clear hg hE
 obtain ⟨Aq, cq, hv, -⟩ := E.out.mk_ 0 rfl; injection hv with hv; subst hv
 obtain ⟨nq, hn⟩ : ∃ m, m = (([] ++ ys.take i) ++ (ys.drop j)).length := ⟨_, rfl⟩; try simp only [← hn] at E; try simp only [← hn]; clear hn
 refine ⟨⟨(E.out.box 2 rfl), trivial⟩, (fun hHeld => ?_)⟩
 refine tre_norm (a' := ?_) ?_ ?_; rotate_left; (· show Act.put _ (some 27) _ = _; simp only [Act.put, s_A, s_0, s_1, i64_w]; try rfl)
 generalize (if cG = j then (some ⟨g_, 0, none⟩ : Option Addr) else some ⟨g_, j * 5, none⟩) = B_ at hHeld ⊢
 (refine tre_p (v := ?_) (a' := ?_) rfl rfl (Or.inl ⟨by rfl, ?_⟩) ?_ ?_; rotate_left; (· intro w'; go_simp; with_reducible rfl); rotate_left; (· show Act.put _ (some _) _ = _; simp only [Act.put, s_A, s_0, s_1, i64_w]; try rfl))
 refine tre_l rfl (ev1_storecell rfl (by rfl) 54 _ _ rfl w1_.heap.size 6 (.slice Aq nq cq) (.slice (some ⟨g_, 0, none⟩) rs.length cG) (gD ++ gM) (gT ++ ([.bool bw] ++ [.bool bf])) rfl rfl (E.out.box 2 rfl) (by simp only [aA, aN, aL]; rw [Ed2_.out]; first | done | rfl | (simp only [aA, aN, aL]; first | done | rfl)) (by simp only [List.length_append, List.length_cons, List.length_nil, LgD.out, LgM.out]) (by kernel_rfl) rfl rfl (fun W10_ hp hn => ?_))
 replace E := E.out.put2 2 hp hn (by have o := O.out; dsimp only [Off, OffA, Fct.box, Fct.made, Fct.same, Fct.nil, List.set]; and_intros <;> first | trivial | omega); clear hp hn
 refine tre_done ?_
 clear hHeld
 obtain ⟨c11_, Ec11_, Lc11_, Oc11_⟩ := lump_ (gD ++ (gM ++ ([.slice Aq nq cq] ++ (gT ++ ([.bool bw] ++ [.bool bf]))))) 20 (by simp only [List.length_append, List.length_cons, List.length_nil, LgD.out, LgM.out, LgT.out]) (ones_app OgD.out (ones_app OgM.out (ones_app (ones1 rfl) (ones_app OgT.out (ones_app (ones1 rfl) (ones1 rfl))))))
 go_wp2_with (first | ((with_reducible refine gate_dst (N := 29) rfl ?_); refine ev_loadpart rfl 58 _ rfl w1_.heap.size 0 [] c11_ [] _ rfl (E.out.box 2 rfl) (by simp only [aA, aN, aL]; rw [Ec11_.out]; first | done | rfl | (simp only [aA, aN, aL]; first | done | rfl)) (rfl) Try.underlying58 rfl (by rw [Lc11_.out]; kernel_rfl) ?_) | ((with_reducible refine gate_store (t := 58) (p := 4) rfl ?_); refine ev_storepart rfl 58 _ _ rfl rfl (w.heap.size + 1) 0 c11_ [] Z58 [] rfl rfl (E.out.box 4 rfl) (by first | rfl | (simp only [aA, aN, aL]; first | done | rfl)) (rfl) (by rw [Lc11_.out]; rfl) (by rw [Lc11_.out]; kernel_rfl) Oc11_.out ?_; intro W12_ hp hn; replace E := E.out.put2 4 hp hn (by have o := O.out; dsimp only [Off, OffA, Fct.box, Fct.made, Fct.same, Fct.nil, List.set]; and_intros <;> first | trivial | omega); clear hp hn))
 have BX := Aside0.mk (show _ = some (Obj.cells (c11_ : List Value).toArray 58 (0, 0)) from by first | exact (E.out.box 4 rfl) | simpa only [aA, aN, aL] using (E.out.box 4 rfl))
 refine bodyPost_ret (results_list (rs := [.cell 4 58, .tmp 5]) rfl (by simp) (.cell (w.heap.size + 1) 58 _ _ _ rfl BX.out Try.underlying58 rfl (by rw [List.size_toArray, show (c11_ : List Value).length = 20 from Lc11_.out]; kernel_rfl) (.tmp .nil))) rfl ?_
 exact ⟨_, rfl, (by rw [Ec11_.out]; exact fresh (d := kStore) ((HT.out _ (fun k hk _ => E.out.get 1 rfl k hk.2)).2.2 _ (fun k => True ∧ Iv bq (bq + 1) k) (fun k h1 h2 => by have o := O.out; have h3 := h1.2; have h4 := h2.2; simp only [Iv] at h3 h4; omega) (E.out.made 0 rfl)) (Nat.le_refl _)), E.out.below⟩
def ImplEnd (k : Nat) (d : ((List ByteArray × List S135) × S53 × List S118 × (S53 × (List ByteArray × List S135 × Int × List Int × List Int × List Int) × Int) × Bool × Bool)) (id : Int) (z : ((List ByteArray × List S135) × S53 × List S118 × (S53 × (List ByteArray × List S135 × Int × List Int × List Int × List Int) × Int) × Bool × Bool)) (c : Int) : Prop := CloneImpl k d ∧ ((At d.2.2.1 id (-1) ∧ z = d ∧ c = 2) ∨ ∃ i : Nat, At d.2.2.1 id (i : Int) ∧ i < d.2.2.1.length ∧ c = 0 ∧ z = (d.1, d.2.1, d.2.2.1.eraseIdx i, d.2.2.2))
theorem implEnd_c (k : Nat) (d : ((List ByteArray × List S135) × S53 × List S118 × (S53 × (List ByteArray × List S135 × Int × List Int × List Int × List Int) × Int) × Bool × Bool)) (id : Int) (z : ((List ByteArray × List S135) × S53 × List S118 × (S53 × (List ByteArray × List S135 × Int × List Int × List Int × List Int) × Int) × Bool × Bool)) (c : Int) {cs : List Value} (w : World) (h : kStore.K w d cs) (hf : ImplEnd k d id z c) :
  Calls Try.prog 34 #[.agg cs.toArray, .int .i64 id] w fun e w' => ∃ ds : List Value, e = .returned (.tuple #[.agg ds.toArray, .int .i64 c]) ∧ kStore.M w' w.heap.size (Fr w w') z ds ∧ Below w.heap.size w w' := by
 obtain ⟨⟨a0, a1⟩, x, rs, ⟨y, ⟨l0, l1, l2, l3, l4, l5⟩, n⟩, bw, bf⟩ := d
 obtain ⟨⟨f1, f2, f3, f4, f5, hl⟩, ⟨hr, rfl, rfl⟩ | ⟨i, hr, hi, rfl, rfl⟩⟩ := hf
 ·exact implEnd_f k a0 a1 x rs y l0 l1 l2 l3 l4 l5 n bw bf id w h f1 f2 f3 f4 f5 hl hr
 ·exact implEnd_t k a0 a1 x rs y l0 l1 l2 l3 l4 l5 n bw bf id i w h f1 f2 f3 f4 f5 hl hr hi
def SpecEnd (k : Nat) (d : ((List ByteArray × List S135) × S53 × List S118 × (S53 × (List ByteArray × List S135 × Int × List Int × List Int × List Int) × Int) × Bool × Bool)) (id : Int) (z : ((List ByteArray × List S135) × S53 × List S118 × (S53 × (List ByteArray × List S135 × Int × List Int × List Int × List Int) × Int) × Bool × Bool)) (c : Int) : Prop := CloneSpec k d ∧ ((At d.2.2.1 id (-1) ∧ z = d ∧ c = 2) ∨ ∃ i : Nat, At d.2.2.1 id (i : Int) ∧ i < d.2.2.1.length ∧ c = 0 ∧ z = (d.1, d.2.1, d.2.2.1.eraseIdx i, d.2.2.2))
theorem specEnd_c (k : Nat) (d : ((List ByteArray × List S135) × S53 × List S118 × (S53 × (List ByteArray × List S135 × Int × List Int × List Int × List Int) × Int) × Bool × Bool)) (id : Int) (z : ((List ByteArray × List S135) × S53 × List S118 × (S53 × (List ByteArray × List S135 × Int × List Int × List Int × List Int) × Int) × Bool × Bool)) (c : Int) {cs : List Value} (w : World) (h : kStore.K w d cs) (hf : SpecEnd k d id z c) :
  Calls Try.prog 32 #[.agg cs.toArray, .int .i64 id] w fun e w' => ∃ ds : List Value, e = .returned (.tuple #[.agg ds.toArray, .int .i64 c]) ∧ kStore.M w' w.heap.size (Fr w w') z ds ∧ Below w.heap.size w w' := by
 obtain ⟨⟨a0, a1⟩, x, rs, ⟨y, ⟨l0, l1, l2, l3, l4, l5⟩, n⟩, bw, bf⟩ := d
 obtain ⟨⟨f1, f2, f3, f4, f5, hl⟩, ⟨hr, rfl, rfl⟩ | ⟨i, hr, hi, rfl, rfl⟩⟩ := hf
 ·exact specEnd_f a0 a1 x rs y l0 l1 l2 l3 l4 l5 n bw bf id w h f1 f2 f3 f4 f5 hl hr
 ·exact specEnd_t a0 a1 x rs y l0 l1 l2 l3 l4 l5 n bw bf id i w h f1 f2 f3 f4 f5 hl hr hi
theorem end_small0 (k : Nat) (a0 : ((List ByteArray × List S140) × S69 × List S154 × (S69 × (List ByteArray × List S140 × Int × List Int × List Int × List Int) × Int) × Bool × Bool)) (id : Int) (r0 : Int) {cs0 : List Value} (w : World) (h0 : kStoreL.K w a0 cs0) (hs0 : szStore_f k a0 1048576 = some r0) (hr0 : r0 < 0) :
  Calls Try.prog 6 #[.agg cs0.toArray, .int .i64 id] w fun e w' => e = .returned (.bool true) ∧ Below w.heap.size w w' := by
 have KA0 := Aside0.mk h0; have LA0 := Aside0.mk (show cs0.length = 20 from Kd.K_len _ h0); clear h0
 have HS0 := Aside0.mk hs0; clear hs0
 replace hr0 : decide (r0 < 0) = true := decide_eq_true hr0
 have O := Aside0.mk (Nat.le_refl w.heap.size)
 have E := Aside0.mk (Env.start w)
 go_enter Try.func6, Try.ntmps6
 go_wp2_with (first | ((with_reducible refine gate_dst (N := 16) rfl ?_); replace O := Aside0.mk (And.intro E.out.le O.out); replace E := Aside0.mk (E.out.alloc cs0 74 (g := w.heap.size) rfl); refine ev_loadpart rfl 74 _ rfl w.heap.size 0 [] cs0 [] _ rfl (E.out.box 0 rfl) (by first | rfl | (simp only [aA, aN, aL]; first | done | rfl)) (rfl) Try.underlying74 rfl (by rw [LA0.out]; kernel_rfl) ?_))
 ((with_reducible refine (szStore_c k a0 1048576 r0 _ (E.out.K KA0.out) HS0.out).mono ?_); rintro e w1_ ⟨rfl, hb⟩)
 replace E := Aside0.mk (E.out.call hb); clear hb
 go_wp2_with fail
 go_ret
 exact ⟨rfl, E.out.below⟩
def end_great_T10 : Bool × List (List Nat × List Nat) := (true, [([], []), ([], []), ([1], [1]), ([0, 2, 2], [0, 2]), ([3], [3])])
def end_great_B10 : List Nat := [0, 0, 2, 7, 15]
theorem end_great_ok10_0 : regT (opsOf Try.f6 10) end_great_T10 end_great_B10 [] (.t 0 (.t 1 (.e 2 (.e 3 (.p 4 .d))))) = true := by kernel_rfl
theorem end_great (k : Nat) (a0 : ((List ByteArray × List S140) × S69 × List S154 × (S69 × (List ByteArray × List S140 × Int × List Int × List Int × List Int) × Int) × Bool × Bool)) (id : Int) (r0 : Int) (d0 d0_ : ((List ByteArray × List S135) × S53 × List S118 × (S53 × (List ByteArray × List S135 × Int × List Int × List Int × List Int) × Int) × Bool × Bool)) (z0 z0_ : ((List ByteArray × List S135) × S53 × List S118 × (S53 × (List ByteArray × List S135 × Int × List Int × List Int × List Int) × Int) × Bool × Bool)) (z1 : Int) (mk0 : Int) (mg0 : Int) {cs0 : List Value} (w : World) (h0 : kStoreL.K w a0 cs0) (hs0 : szStore_f k a0 1048576 = some r0) (ht0 : ToStore k a0 d0) (hsp : SpecEnd k d0 id z0 z1) (him : ImplEnd k d0 id z0 z1) (heq0 : EqStore k z0) (hex0 : EqStore k d0) (hmk0 : MarkStore k d0 1 d0_ mk0) (hmg0 : MarkStore k z0 1 z0_ mg0) (hhd0 : HeldStore k z0_ 1 mg0) (hr0 : ¬ r0 < 0) (hm : ¬ mk0 < 0) (hg0 : ¬ mg0 < 0) :
  Calls Try.prog 6 #[.agg cs0.toArray, .int .i64 id] w fun e w' => e = .returned (.bool true) ∧ Below w.heap.size w w' := by
 have KA0 := Aside0.mk h0; have LA0 := Aside0.mk (show cs0.length = 20 from Kd.K_len _ h0); clear h0
 have HS0 := Aside0.mk hs0; clear hs0
 have HT0 := Aside0.mk ht0; clear ht0
 have HSP := Aside0.mk hsp; clear hsp
 have HIM := Aside0.mk him; clear him
 have HEQ0 := Aside0.mk heq0; clear heq0
 have HEX0 := Aside0.mk hex0; clear hex0
 have HMK0 := Aside0.mk hmk0; clear hmk0
 have HMG0 := Aside0.mk hmg0; clear hmg0
 have HHD0 := Aside0.mk hhd0; clear hhd0
 replace hr0 : decide (r0 < 0) = false := decide_eq_false hr0
 replace hm : decide (mk0 < 0) = false := decide_eq_false hm
 replace hg0 : decide (mg0 < 0) = false := decide_eq_false hg0
 have O := Aside0.mk (Nat.le_refl w.heap.size)
 have E := Aside0.mk (Env.start w)
 go_enter Try.func6, Try.ntmps6
 go_wp2_with (first | ((with_reducible refine gate_dst (N := 16) rfl ?_); replace O := Aside0.mk (And.intro E.out.le O.out); replace E := Aside0.mk (E.out.alloc cs0 74 (g := w.heap.size) rfl); refine ev_loadpart rfl 74 _ rfl w.heap.size 0 [] cs0 [] _ rfl (E.out.box 0 rfl) (by first | rfl | (simp only [aA, aN, aL]; first | done | rfl)) (rfl) Try.underlying74 rfl (by rw [LA0.out]; kernel_rfl) ?_))
 ((with_reducible refine (szStore_c k a0 1048576 r0 _ (E.out.K KA0.out) HS0.out).mono ?_); rintro e w1_ ⟨rfl, hb⟩)
 replace E := Aside0.mk (E.out.call hb); clear hb
 go_wp2_with (first | ((with_reducible refine gate_dst (N := 22) rfl ?_); refine ev_loadpart rfl 74 _ rfl w.heap.size 0 [] cs0 [] _ rfl (E.out.box 0 rfl) (by first | rfl | (simp only [aA, aN, aL]; first | done | rfl)) (rfl) Try.underlying74 rfl (by rw [LA0.out]; kernel_rfl) ?_))
 ((with_reducible refine (toStore_c k a0 d0 _ (E.out.K KA0.out) HT0.out).mono ?_); rintro e w2_ ⟨d3_, rfl, Md3_, hb⟩)
 have q := E.out.made4 O.out 20 rfl Md3_ hb; clear O E Md3_ hb; obtain ⟨n4_, m5_, Ld3_, Od3_, O, E⟩ := q
 go_wp2_with fail
 ((with_reducible refine (specEnd_c k d0 id z0 z1 _ (E.out.mk_ 0 rfl) HSP.out).mono ?_); rintro e w6_ ⟨d7_, rfl, Md7_, hb⟩)
 have q := E.out.made4 O.out 20 rfl Md7_ hb; clear O E Md7_ hb; obtain ⟨n8_, m9_, Ld7_, Od7_, O, E⟩ := q
 go_wp2_with (first | ((with_reducible refine gate_store (t := 58) (p := 6) rfl ?_); replace O := Aside0.mk (And.intro E.out.le O.out); replace E := Aside0.mk (E.out.alloc Z58 58 (g := w6_.heap.size) rfl); refine ev_storepart rfl 58 _ _ rfl rfl w6_.heap.size 0 d7_ [] Z58 [] rfl rfl (E.out.box 0 rfl) (by first | rfl | (simp only [aA, aN, aL]; first | done | rfl)) (rfl) (by rw [Ld7_.out]; rfl) (by rw [Ld7_.out]; kernel_rfl) Od7_.out ?_; intro W10_ hp hn; replace E := E.out.put2 0 hp hn (by have o := O.out; dsimp only [Off, OffA, Fct.box, Fct.made, List.set]; and_intros <;> first | trivial | omega); clear hp hn) | ((with_reducible refine gate_dst (N := 28) rfl ?_); refine ev_loadpart rfl 74 _ rfl w.heap.size 0 [] cs0 [] _ rfl (E.out.box 3 rfl) (by first | rfl | (simp only [aA, aN, aL]; first | done | rfl)) (rfl) Try.underlying74 rfl (by rw [LA0.out]; kernel_rfl) ?_))
 ((with_reducible refine (toStore_c k a0 d0 _ (E.out.K KA0.out) HT0.out).mono ?_); rintro e w11_ ⟨d12_, rfl, Md12_, hb⟩)
 have q := E.out.made4 O.out 20 rfl Md12_ hb; clear O E Md12_ hb; obtain ⟨n13_, m14_, Ld12_, Od12_, O, E⟩ := q
 go_wp2_with (first | ((with_reducible refine gate_store (t := 58) (p := 8) rfl ?_); replace O := Aside0.mk (And.intro E.out.le O.out); replace E := Aside0.mk (E.out.alloc Z58 58 (g := w11_.heap.size) rfl); refine ev_storepart rfl 58 _ _ rfl rfl w11_.heap.size 0 d12_ [] Z58 [] rfl rfl (E.out.box 0 rfl) (by first | rfl | (simp only [aA, aN, aL]; first | done | rfl)) (rfl) (by rw [Ld12_.out]; rfl) (by rw [Ld12_.out]; kernel_rfl) Od12_.out ?_; intro W15_ hp hn; replace E := E.out.put2 0 hp hn (by have o := O.out; dsimp only [Off, OffA, Fct.box, Fct.made, List.set]; and_intros <;> first | trivial | omega); clear hp hn) | ((with_reducible refine gate_dst (N := 31) rfl ?_); refine ev_loadpart rfl 58 _ rfl w11_.heap.size 0 [] d12_ [] _ rfl (E.out.box 0 rfl) (by first | rfl | (simp only [aA, aN, aL]; first | done | rfl)) (rfl) Try.underlying58 rfl (by rw [Ld12_.out]; kernel_rfl) ?_))
 ((with_reducible refine (implEnd_c k d0 id z0 z1 _ (E.out.mk_ 1 rfl) HIM.out).mono ?_); rintro e w16_ ⟨d17_, rfl, Md17_, hb⟩)
 have q := E.out.made4 O.out 20 rfl Md17_ hb; clear O E Md17_ hb; obtain ⟨n18_, m19_, Ld17_, Od17_, O, E⟩ := q
 go_wp2_with (first | ((with_reducible refine gate_store (t := 58) (p := 9) rfl ?_); replace O := Aside0.mk (And.intro E.out.le O.out); replace E := Aside0.mk (E.out.alloc Z58 58 (g := w16_.heap.size) rfl); refine ev_storepart rfl 58 _ _ rfl rfl w16_.heap.size 0 d17_ [] Z58 [] rfl rfl (E.out.box 0 rfl) (by first | rfl | (simp only [aA, aN, aL]; first | done | rfl)) (rfl) (by rw [Ld17_.out]; rfl) (by rw [Ld17_.out]; kernel_rfl) Od17_.out ?_; intro W20_ hp hn; replace E := E.out.put2 0 hp hn (by have o := O.out; dsimp only [Off, OffA, Fct.box, Fct.made, List.set]; and_intros <;> first | trivial | omega); clear hp hn) | ((with_reducible refine gate_dst (N := 36) rfl ?_); refine ev_loadpart rfl 58 _ rfl w16_.heap.size 0 [] d17_ [] _ rfl (E.out.box 0 rfl) (by first | rfl | (simp only [aA, aN, aL]; first | done | rfl)) (rfl) Try.underlying58 rfl (by rw [Ld17_.out]; kernel_rfl) ?_) | ((with_reducible refine gate_dst (N := 37) rfl ?_); refine ev_loadpart rfl 58 _ rfl w6_.heap.size 0 [] d7_ [] _ rfl (E.out.box 4 rfl) (by first | rfl | (simp only [aA, aN, aL]; first | done | rfl)) (rfl) Try.underlying58 rfl (by rw [Ld7_.out]; kernel_rfl) ?_))
 ((with_reducible refine (eqStore_c k z0 _ (E.out.mk_ 1 rfl) (E.out.mk_ 5 rfl) HEQ0.out).mono ?_); rintro e w21_ ⟨rfl, hb⟩)
 replace E := Aside0.mk (E.out.call hb); clear hb
 go_upto_region 10 with (fail)
 replace E := Aside0.mk E.out.drew
 refine tre_start end_great_ok10_0 (S := fun w' => w'.heap[w11_.heap.size]? = some (.cells (([] ++ (d12_ ++ [])) : List Value).toArray 58 (0, 0)) ∧ w'.heap[w.heap.size]? = some (.cells (cs0 : List Value).toArray 74 (0, 0)) ∧ True) (by kernel_rfl) (fun _ _ _ _ h => h) ⟨(E.out.box 2 rfl), (E.out.box 7 rfl), trivial⟩ (fun hHeld => ?_)
 generalize hq : World.drew _ = w22_ at hHeld ⊢; replace E := E.out.to hq; clear hq
 refine tre_loadpart (a' := ?ax23_) rfl rfl (by rfl) 58 _ rfl w11_.heap.size 0 [] d12_ [] _ rfl (fun w' hs => hs.1) (by first | rfl | (simp only [aA, aN, aL]; first | done | rfl)) (rfl) Try.underlying58 rfl (by rw [Ld12_.out]; kernel_rfl) ?px23_ ?kx23_
 case px23_ => (show Act.put _ (some _) _ = _; simp only [Act.put, s_A, s_0, s_1, i64_w]; try rfl)
 refine tre_loadpart (a' := ?ax24_) rfl rfl (by rfl) 74 _ rfl w.heap.size 0 [] cs0 [] _ rfl (fun w' hs => hs.2.1) (by first | rfl | (simp only [aA, aN, aL]; first | done | rfl)) (rfl) Try.underlying74 rfl (by rw [LA0.out]; kernel_rfl) ?px24_ ?kx24_
 case px24_ => (show Act.put _ (some _) _ = _; simp only [Act.put, s_A, s_0, s_1, i64_w]; try rfl)
 refine tre_e rfl (ev1_call rfl Try.func33 (by kernel_rfl) rfl #[.agg cs0.toArray] (by rfl) rfl (by (try simp only [List.map_toArray, List.map_cons, List.map_nil]); first | done | rfl) ?_)
 with_reducible refine (toStore_c k a0 d0 _ (E.out.K KA0.out) HT0.out).mono ?_
 rintro e w25_ ⟨d26_, rfl, Md26_, hb⟩
 have q := E.out.made4 O.out 20 rfl Md26_ hb; clear O E Md26_ hb; obtain ⟨n27_, m28_, Ld26_, Od26_, O, E⟩ := q
 refine ⟨_, rfl, ⟨(E.out.box 3 rfl), (E.out.box 8 rfl), trivial⟩, (fun hHeld => ?_)⟩
 refine tre_norm (a' := ?_) ?_ ?_; rotate_left; (· show Act.put _ (some 47) _ = _; simp only [Act.put, s_A, s_0, s_1, i64_w]; try rfl)
 refine tre_e rfl (ev1_call rfl Try.func26 (by kernel_rfl) rfl #[.agg d12_.toArray, .agg d26_.toArray] (by rfl) rfl (by (try simp only [List.map_toArray, List.map_cons, List.map_nil]); first | done | rfl) ?_)
 with_reducible refine (eqStore_c k d0 _ (E.out.mk_ 4 rfl) (E.out.mk_ 0 rfl) HEX0.out).mono ?_
 rintro e w29_ ⟨rfl, hb⟩
 replace E := Aside0.mk (E.out.call hb); clear hb
 refine ⟨_, rfl, ⟨(E.out.box 3 rfl), (E.out.box 8 rfl), trivial⟩, (fun hHeld => ?_)⟩
 refine tre_norm (a' := ?_) ?_ ?_; rotate_left; (· show Act.put _ (some 48) _ = _; simp only [Act.put, s_A, s_0, s_1, i64_w]; try rfl)
 (refine tre_p (v := ?_) (a' := ?_) rfl rfl (Or.inl ⟨by rfl, ?_⟩) ?_ ?_; rotate_left; (· intro w'; go_simp; with_reducible rfl); rotate_left; (· show Act.put _ (some _) _ = _; simp only [Act.put, s_A, s_0, s_1, i64_w]; try rfl))
 refine tre_done ?_
 clear hHeld
 go_wp2_with (first | ((with_reducible refine gate_dst (N := 50) rfl ?_); refine ev_loadpart rfl 58 _ rfl w11_.heap.size 0 [] d12_ [] _ rfl (E.out.box 3 rfl) (by first | rfl | (simp only [aA, aN, aL]; first | done | rfl)) (rfl) Try.underlying58 rfl (by rw [Ld12_.out]; kernel_rfl) ?_))
 ((with_reducible refine (markStore_c k d0 1 d0_ mk0 _ w _ E.out.below (E.out.mbound 4 rfl) (E.out.made 4 rfl) HMK0.out).mono ?_); rintro e w30_ ⟨rfl, M, hB, hK⟩)
 replace E := Aside0.mk (E.out.marked 4 rfl M hB hK (by have o := O.out; simp only [Off2, Off2.Off2A, List.set_cons_zero, List.set_cons_succ, Fct.box, Fct.made]; and_intros <;> first | trivial | omega)); clear M hB hK
 go_wp2_with (first | ((with_reducible refine gate_dst (N := 56) rfl ?_); refine ev_loadpart_w (by rfl) 58 _ rfl w16_.heap.size 0 [] d17_ [] _ rfl (E.out.box 1 rfl) (by first | rfl | (simp only [aA, aN, aL]; first | done | rfl)) (rfl) Try.underlying58 rfl (by rw [Ld17_.out]; kernel_rfl) ?_) | ((with_reducible refine gate_dst (N := 57) rfl ?_); refine ev_loadpart_w (by rfl) 58 _ rfl w6_.heap.size 0 [] d7_ [] _ rfl (E.out.box 5 rfl) (by first | rfl | (simp only [aA, aN, aL]; first | done | rfl)) (rfl) Try.underlying58 rfl (by rw [Ld7_.out]; kernel_rfl) ?_))
 ((with_reducible refine (eqStore_c k z0 _ (E.out.mk_ 2 rfl) (E.out.mk_ 6 rfl) HEQ0.out).mono ?_); rintro e w31_ ⟨rfl, hb⟩)
 replace E := Aside0.mk (E.out.call hb); clear hb
 go_wp2_with (first | ((with_reducible refine gate_dst (N := 66) rfl ?_); refine ev_loadpart rfl 58 _ rfl w16_.heap.size 0 [] d17_ [] _ rfl (E.out.box 1 rfl) (by first | rfl | (simp only [aA, aN, aL]; first | done | rfl)) (rfl) Try.underlying58 rfl (by rw [Ld17_.out]; kernel_rfl) ?_))
 ((with_reducible refine (markStore_c k z0 1 z0_ mg0 _ w _ E.out.below (E.out.mbound 2 rfl) (E.out.made 2 rfl) HMG0.out).mono ?_); rintro e w32_ ⟨rfl, M, hB, hK⟩)
 replace E := Aside0.mk (E.out.marked 2 rfl M hB hK (by have o := O.out; simp only [Off2, Off2.Off2A, List.set_cons_zero, List.set_cons_succ, Fct.box, Fct.made]; and_intros <;> first | trivial | omega)); clear M hB hK
 go_wp2_with (first | ((with_reducible refine gate_dst (N := 69) rfl ?_); refine ev_loadpart rfl 58 _ rfl w16_.heap.size 0 [] d17_ [] _ rfl (E.out.box 1 rfl) (by first | rfl | (simp only [aA, aN, aL]; first | done | rfl)) (rfl) Try.underlying58 rfl (by rw [Ld17_.out]; kernel_rfl) ?_))
 ((with_reducible refine (heldStore_c k z0_ 1 mg0 _ (E.out.mk_ 2 rfl) HHD0.out).mono ?_); rintro e w33_ ⟨rfl, hb⟩)
 replace E := Aside0.mk (E.out.call hb); clear hb
 go_wp2_with (first | ((with_reducible refine gate_dst (N := 78) rfl ?_); refine ev_loadpart rfl 74 _ rfl w.heap.size 0 [] cs0 [] _ rfl (E.out.box 8 rfl) (by first | rfl | (simp only [aA, aN, aL]; first | done | rfl)) (rfl) Try.underlying74 rfl (by rw [LA0.out]; kernel_rfl) ?_))
 ((with_reducible refine (toStore_c k a0 d0 _ (E.out.K KA0.out) HT0.out).mono ?_); rintro e w34_ ⟨d35_, rfl, Md35_, hb⟩)
 have q := E.out.made4 O.out 20 rfl Md35_ hb; clear O E Md35_ hb; obtain ⟨n36_, m37_, Ld35_, Od35_, O, E⟩ := q
 go_wp2_with fail
 ((with_reducible refine (implEnd_c k d0 id z0 z1 _ (E.out.mk_ 0 rfl) HIM.out).mono ?_); rintro e w38_ ⟨d39_, rfl, Md39_, hb⟩)
 have q := E.out.made4 O.out 20 rfl Md39_ hb; clear O E Md39_ hb; obtain ⟨n40_, m41_, Ld39_, Od39_, O, E⟩ := q
 go_wp2_with (first | ((with_reducible refine gate_store (t := 58) (p := 14) rfl ?_); replace O := Aside0.mk (And.intro E.out.le O.out); replace E := Aside0.mk (E.out.alloc Z58 58 (g := w38_.heap.size) rfl); refine ev_storepart rfl 58 _ _ rfl rfl w38_.heap.size 0 d39_ [] Z58 [] rfl rfl (E.out.box 0 rfl) (by first | rfl | (simp only [aA, aN, aL]; first | done | rfl)) (rfl) (by rw [Ld39_.out]; rfl) (by rw [Ld39_.out]; kernel_rfl) Od39_.out ?_; intro W42_ hp hn; replace E := E.out.put2 0 hp hn (by have o := O.out; dsimp only [Off, OffA, Fct.box, Fct.made, List.set]; and_intros <;> first | trivial | omega); clear hp hn) | ((with_reducible refine gate_dst (N := 84) rfl ?_); refine ev_loadpart rfl 58 _ rfl w38_.heap.size 0 [] d39_ [] _ rfl (E.out.box 0 rfl) (by first | rfl | (simp only [aA, aN, aL]; first | done | rfl)) (rfl) Try.underlying58 rfl (by rw [Ld39_.out]; kernel_rfl) ?_) | ((with_reducible refine gate_dst (N := 85) rfl ?_); refine ev_loadpart rfl 58 _ rfl w6_.heap.size 0 [] d7_ [] _ rfl (E.out.box 8 rfl) (by first | rfl | (simp only [aA, aN, aL]; first | done | rfl)) (rfl) Try.underlying58 rfl (by rw [Ld7_.out]; kernel_rfl) ?_))
 ((with_reducible refine (eqStore_c k z0 _ (E.out.mk_ 1 rfl) (E.out.mk_ 9 rfl) HEQ0.out).mono ?_); rintro e w43_ ⟨rfl, hb⟩)
 replace E := Aside0.mk (E.out.call hb); clear hb
 go_wp2_with (first | ((with_reducible refine gate_dst (N := 93) rfl ?_); refine ev_loadpart rfl 58 _ rfl w16_.heap.size 0 [] d17_ [] _ rfl (E.out.box 4 rfl) (by first | rfl | (simp only [aA, aN, aL]; first | done | rfl)) (rfl) Try.underlying58 rfl (by rw [Ld17_.out]; kernel_rfl) ?_))
 ((with_reducible refine (heldStore_c k z0_ 1 mg0 _ (E.out.mk_ 5 rfl) HHD0.out).mono ?_); rintro e w44_ ⟨rfl, hb⟩)
 replace E := Aside0.mk (E.out.call hb); clear hb
 go_wp2_with fail
 go_ret
 exact ⟨rfl, E.out.below⟩
theorem At_ex (zs : List S118) (id : Int) : At zs id (-1) ∨ ∃ i : Nat, At zs id (i : Int) ∧ i < zs.length := by
 by_cases h : ∃ x ∈ zs, x.f0 = id
 ·have h2 : ∃ i : Nat, ∃ hi : i < zs.length, (zs[i]).f0 = id := by
   obtain ⟨x, hx, e⟩ := h
   obtain ⟨i, hi, rfl⟩ := List.getElem_of_mem hx
   exact ⟨i, hi, e⟩
  obtain ⟨i, ⟨hi, e⟩, hm⟩ : ∃ i : Nat, (∃ hi : i < zs.length, (zs[i]).f0 = id) ∧ ∀ j < i, ¬ ∃ hj : j < zs.length, (zs[j]).f0 = id := by
   obtain ⟨n, hn⟩ := h2
   induction n using Nat.strongRecOn with
   | _ n ih =>
    by_cases hq : ∃ j, j < n ∧ ∃ hj : j < zs.length, (zs[j]).f0 = id
    ·obtain ⟨j, hj, hp⟩ := hq
     exact ih j hj hp
    ·exact ⟨n, hn, fun j hj hp => hq ⟨j, hj, hp⟩⟩
  exact Or.inr ⟨i, Or.inr ⟨i, hi, rfl, e, fun j hj hji hp => hm j hji ⟨hj, hp⟩⟩, hi⟩
 ·exact Or.inl (Or.inl ⟨rfl, fun x hx e => h ⟨x, hx, e⟩⟩)
theorem end_ev (d : ((List ByteArray × List S135) × S53 × List S118 × (S53 × (List ByteArray × List S135 × Int × List Int × List Int × List Int) × Int) × Bool × Bool)) (id : Int) (h : OKs d) : ∃ z c, EvP (fun k => SpecEnd k d id z c) ∧ EvP (fun k => ImplEnd k d id z c) ∧ OKs z := by
 have hI := cloneI_ev d h
 have hS := cloneS_ev d h
 rcases At_ex d.2.2.1 id with hr | ⟨i, hr, hi⟩
 ·exact ⟨d, 2, ⟨0, fun k _ => ⟨hS k, .inl ⟨hr, rfl, rfl⟩⟩⟩, hI.imp (fun k hk => ⟨hk, .inl ⟨hr, rfl, rfl⟩⟩), h⟩
 ·refine ⟨_, 0, ⟨0, fun k _ => ⟨hS k, .inr ⟨i, hr, hi, rfl, rfl⟩⟩⟩, hI.imp (fun k hk => ⟨hk, .inr ⟨i, hr, hi, rfl, rfl⟩⟩), ?_⟩
  obtain ⟨h1, h2, h3, h4⟩ := h
  exact ⟨h1, h2, ⟨Nat.le_trans (by rw [List.length_eraseIdx]; split <;> omega) h3.1, fun s hs => h3.2 s (List.mem_of_mem_eraseIdx hs)⟩, h4⟩
theorem end_law (a : ((List ByteArray × List S140) × S69 × List S154 × (S69 × (List ByteArray × List S140 × Int × List Int × List Int × List Int) × Int) × Bool × Bool)) (id : Int) (ha : INs a) {cs : List Value} (w : World) (h : kStoreL.K w a cs) :
  Calls Try.prog 6 #[.agg cs.toArray, .int .i64 id] w fun e w' => e = .returned (.bool true) ∧ Below w.heap.size w w' := by
 obtain ⟨r, ⟨K0, er⟩, hr⟩ := sz_store a ha
 rcases hr with hr | ⟨hr, ho⟩
 ·exact end_small0 K0 a id r w h (er K0 (Nat.le_refl _)) hr
 ·obtain ⟨hto, hd⟩ := to_store a ho
  obtain ⟨z, c, hsp, him, hz⟩ := end_ev (convS a) id hd
  obtain ⟨d', mk, hmk, mk0, _⟩ := mark_store (convS a) hd
  obtain ⟨z', mg, hmg, mg0, hhd⟩ := mark_store z hz
  obtain ⟨K, hK⟩ := (EvP.of ⟨K0, er⟩).and (hto.and (hsp.and (him.and ((eq_store z hz).and ((eq_store (convS a) hd).and (hmk.and (hmg.and hhd)))))))
  obtain ⟨f1, f2, f3, f4, f5, f6, f7, f8, f9⟩ := hK K (Nat.le_refl _)
  exact end_great K a id r (convS a) d' z z' c mk mg w h f1 f2 f3 f4 f5 f6 f7 f8 f9 hr mk0 mg0
end Go.Proofs.Ytonhdiemjgdcnaa.PFnExactGivePage
namespace Go.Proofs.Ytonhdiemjgdcnaa.Head
set_option maxRecDepth 100000
def w1 : List Char := [104, 97, 114, 110, 101, 115, 115].map Char.ofNat
def w2 : List Char := [102, 102, 99, 99, 97, 102, 100, 57, 54, 99, 57, 54, 100, 98, 54, 53, 56, 98, 100, 57, 100, 102, 97, 56, 49, 98, 54, 52, 48, 99, 56, 57, 52, 97, 101, 102, 52, 49, 97, 98, 49, 50, 52, 102, 49, 51, 48, 52, 52, 99, 53, 53, 98, 101, 54, 56, 56, 49, 55, 53, 55, 54, 55, 56].map Char.ofNat
def w3 : List Char := [99, 117, 116].map Char.ofNat
def w4 : List Char := [97, 116, 32, 108, 111, 111, 112, 46, 101, 120, 97, 109, 112, 108, 101, 47, 103, 48, 48, 50, 52, 48, 47, 108, 97, 119, 115, 46, 70, 110, 69, 120, 97, 99, 116, 71, 105, 118, 101, 80, 97, 103, 101, 32, 108, 111, 111, 112, 46, 101, 120, 97, 109, 112, 108, 101, 47, 103, 48, 48, 50, 52, 48, 47, 108, 97, 119, 115, 46, 70, 110, 69, 120, 97, 99, 116, 80, 117, 116, 78, 111, 100, 101, 32, 108, 111, 111, 112, 46, 101, 120, 97, 109, 112, 108, 101, 47, 103, 48, 48, 50, 52, 48, 47, 108, 97, 119, 115, 46, 70, 110, 69, 120, 97, 99, 116, 79, 112, 101, 110, 32, 108, 111, 111, 112, 46, 101, 120, 97, 109, 112, 108, 101, 47, 103, 48, 48, 50, 52, 48, 47, 108, 97, 119, 115, 46, 70, 110, 69, 120, 97, 99, 116, 69, 110, 100, 82, 101, 97, 100, 32, 108, 111, 111, 112, 46, 101, 120, 97, 109, 112, 108, 101, 47, 103, 48, 48, 50, 52, 48, 47, 108, 97, 119, 115, 46, 70, 110, 69, 120, 97, 99, 116, 83, 116, 111, 112, 87, 114, 105, 116, 101, 32, 108, 111, 111, 112, 46, 101, 120, 97, 109, 112, 108, 101, 47, 103, 48, 48, 50, 52, 48, 47, 108, 97, 119, 115, 46, 70, 110, 69, 120, 97, 99, 116, 78, 101, 120, 116, 77, 101, 116, 97].map Char.ofNat
def blank : Char := Char.ofNat 32
theorem cut_at (a r : List Char) (h : a.all (· != blank) = true) : wordsSigns (a ++ blank :: r) = a :: wordsSigns r := by
 induction a with
 | nil => rfl
 | cons c a ih =>
  simp only [List.all_cons, Bool.and_eq_true, bne_iff_ne] at h
  have e := ih h.2
  have hc : ∀ s, wordsSigns (c :: s) = match wordsSigns s with | w :: ws => (c :: w) :: ws | [] => [[c]] := by
   intro s
   conv => lhs; unfold wordsSigns
   split
   ·rename_i h0; cases h0
   ·rename_i h0
    injection h0 with h1 h2
    exact absurd h1 h.1
   ·rename_i h0 _ h1
    injection h1 with h2 h3
    subst h2
    subst h3
    rfl
  show wordsSigns (c :: (a ++ blank :: r)) = _
  rw [hc, e]
theorem io : Try.prog.initOrder = String.ofList (w1 ++ blank :: (w2 ++ blank :: (w3 ++ blank :: w4))) := by kernel_rfl
theorem words : wordsSigns Try.prog.initOrder.toList = w1 :: w2 :: w3 :: wordsSigns w4 := by
 rw [io, String.toList_ofList, cut_at _ _ (by kernel_rfl), cut_at _ _ (by kernel_rfl), cut_at _ _ (by kernel_rfl)]
theorem m0 : ((w1 == "harness".toList || w1 == "ownmain".toList) && isSumSigns w2) = true := by kernel_rfl
theorem m1 : (w3 == "gc".toList) = false := by kernel_rfl
theorem m2 : (w3 == "spec".toList) = false := by kernel_rfl
theorem m3 : (w3 == "cut".toList) = true := by kernel_rfl
theorem m4 : (w3 == "carried".toList) = false := by kernel_rfl
theorem m5 (R : List (List Char)) : ((w3 :: R).head? == some "cut".toList) = true := by kernel_rfl
theorem m5c (R : List (List Char)) : ((w3 :: R).head? == some "carried".toList) = false := by kernel_rfl
theorem m6 (R : List (List Char)) : stripLifts liftWords (w3 :: R) = ([], w3 :: R) := by kernel_rfl
theorem m7 : Try.prog.laysLater = false := by kernel_rfl
theorem m8 : Try.prog.bearsReflect = false := by kernel_rfl
theorem m9 : Try.prog.doorFits [] = true := by kernel_rfl
theorem behind (R : List (List Char)) : behindMainWord (w1 :: w2 :: R) = R := by
 show (if ((w1 == "harness".toList || w1 == "ownmain".toList) && isSumSigns w2) = true then R else w1 :: w2 :: R) = R
 rw [if_pos m0]
theorem beh : ∃ R, behindMainWord (wordsSigns Try.prog.initOrder.toList) = w3 :: R := ⟨wordsSigns w4, by rw [words, behind]⟩
theorem lifts_of (P : Program) (R : List (List Char)) (h : behindMainWord (wordsSigns P.initOrder.toList) = w3 :: R) : (false == P.liftsFinal) = true := by
 unfold Program.liftsFinal Program.headLifts
 rw [h]
 simp only [m5, m5c, m6]
 rfl
theorem may_of (P : Program) (R : List (List Char)) (h : behindMainWord (wordsSigns P.initOrder.toList) = w3 :: R) (h7 : P.laysLater = false) (h8 : P.bearsReflect = false) (h9 : P.doorFits [] = true) : P.mayEnter = true := by
 unfold Program.mayEnter
 rw [h]
 simp only [m1, m2, m4, m5, m6, h7, h8, h9]
 rfl
theorem made_of (P : Program) (R : List (List Char)) (h : behindMainWord (wordsSigns P.initOrder.toList) = w3 :: R) : (P.make == some Make.cut) = true := by
 unfold Program.make Program.headLifts
 rw [h]
 simp only [m1, m2, m3]
 rfl
theorem lifts : (false == Try.prog.liftsFinal) = true := by
 obtain ⟨R, h⟩ := beh
 exact lifts_of _ R h
theorem may : Try.prog.mayEnter = true := by
 obtain ⟨R, h⟩ := beh
 exact may_of _ R h m7 m8 m9
theorem made : (Try.prog.make == some Make.cut) = true := by
 obtain ⟨R, h⟩ := beh
 exact made_of _ R h
theorem laid : laidOutB Try.prog = true := by kernel_rfl
theorem maps : mapsRowed Try.prog = true := by kernel_rfl
theorem heard : Try.prog.stopsHeard = true := by kernel_rfl
theorem plain : (true == Try.prog.plainKeys) = true := by kernel_rfl
end Go.Proofs.Ytonhdiemjgdcnaa.Head
namespace Go.Proofs.Ytonhdiemjgdcnaa.Opened
open Go.RowKit Go.Deep Go.WideShapes Go.Proofs.YtonhdiemjgdcnaaW.PrintWords
def Opens {α : Type} (P : Program) (t : TypeId) (d : Kd α) (ok : α → Prop) : Prop :=
 ∀ (H : Type) (enc : TypeId × Value → H) (w : World) (base : Nat) (spare : Nat → Bool) (held : Bool) (fuel : Nat) (cs : List Value) (x : DataW H × List MemPlace),
  DataW.trod enc P w base spare held fuel t cs = some x → ∃ y : α, d.K w y cs ∧ ok y
variable {P : Program}
theorem opens_int {t : TypeId} {k : IntKind} (hu : P.underlying t = some (.int k)) : Opens P t (Kd.int k) (fun _ => True) := by
 intro H enc w base spare held fuel cs x h
 obtain ⟨n, rfl, _, _⟩ := DataW.trod_int hu h
 exact ⟨n, rfl, trivial⟩
theorem opens_string {t : TypeId} (hu : P.underlying t = some .string) : Opens P t Kd.string (fun s => s.size ≤ 9223372036854775807) := by
 intro H enc w base spare held fuel cs x h
 obtain ⟨n, rfl, _, hs⟩ := DataW.trod_string hu h
 exact ⟨n, rfl, by unfold maxLen at hs; omega⟩
theorem list_of {α : Type} (n : Nat) (Q : Nat → α → Prop) (h : ∀ i, i < n → ∃ y, Q i y) : ∃ ys : List α, ys.length = n ∧ ∀ j p, ys[j]? = some p → Q j p := by
 induction n with
 | zero => exact ⟨[], rfl, fun j p h => by simp at h⟩
 | succ n ih =>
  obtain ⟨ys, hl, hy⟩ := ih (fun i hi => h i (by omega))
  obtain ⟨y, hq⟩ := h n (by omega)
  refine ⟨ys ++ [y], by simp [hl], fun j p hj => ?_⟩
  rcases Nat.lt_or_ge j n with hlt | hge
  ·rw [List.getElem?_append_left (by omega)] at hj
   exact hy j p hj
  ·have hj' : j = n := by
    have := (List.getElem?_eq_some_iff.1 hj).1
    rw [List.length_append, List.length_singleton] at this
    omega
   subst hj'
   have : y = p := by rw [List.getElem?_append_right (by omega), hl, Nat.sub_self] at hj; simpa using hj
   subst this
   exact hq
theorem opens_slice {t e : TypeId} {α : Type} {d : Kd α} {ok : α → Prop} (hu : P.underlying t = some (.slice e)) (he : Opens P e d ok) (hc : P.cellsOf e = d.sz) (n : Nat) : Opens P t (Kd.slice n d) (fun ys => ∀ y ∈ ys, ok y) := by
 intro H enc w base spare held fuel cs x h
 rcases open_slice hu h with ⟨rfl, _⟩ | ⟨a, len, cap, m, n', D, Pl, rfl, _, hl, hm, hmm, _, hel⟩
 ·exact ⟨[], ⟨none, 0, rfl, Nat.le_refl _, rfl, by simp, fun h => by simp at h⟩, fun y hy => by cases hy⟩
 ·have hlm : len ≤ m := by
   rw [hmm]
   split <;> omega
  obtain ⟨ys, hy, hq⟩ := list_of len (fun i y => ok y ∧ ∃ cs', w.cells? base (a.add (i * P.cellsOf e)) (P.cellsOf e) = some cs' ∧ d.K w y cs') (fun i hi => by
   obtain ⟨cs', h1, h2⟩ := hel i (by omega)
   obtain ⟨y, hy, hok⟩ := he _ enc w base spare held n' cs' _ h2
   exact ⟨y, hok, cs', h1, hy⟩)
  subst hy
  refine ⟨ys, ⟨some a, cap, rfl, hl, rfl, by unfold maxLen at hm; omega, fun _ => ⟨a, rfl, fun j p hj => ?_⟩⟩, fun y hy => ?_⟩
  ·obtain ⟨_, cs', h1, h2⟩ := hq j p hj
   obtain ⟨_, h3, h4⟩ := World.cells?_some h1
   refine ⟨cs', h3.trans hc, h2, fun i u hi => ?_⟩
   have hi' : i < P.cellsOf e := by
    have := (List.getElem?_eq_some_iff.1 hi).1
    omega
   have := h4 i hi'
   rw [Addr.add_add, hc] at this
   rw [this]
   exact hi
  ·obtain ⟨j, hj, rfl⟩ := List.getElem_of_mem hy
   exact (hq j _ (List.getElem?_eq_getElem hj)).1
def Parts {α : Type} (P : Program) (fs : List Field) (o : Nat) (d : Kd α) (ok : α → Prop) : Prop :=
 ∀ (H : Type) (enc : TypeId × Value → H) (w : World) (base : Nat) (spare : Nat → Bool) (held : Bool) (fuel : Nat) (cs : List Value), cs.length = o + d.sz →
  (∀ f ∈ fs, ∃ x : DataW H × List MemPlace, DataW.trod enc P w base spare held fuel f.type ((cs.drop f.offset).take (P.cellsOf f.type)) = some x) → ∃ y : α, d.K w y (cs.drop o) ∧ ok y
theorem parts_last {α : Type} {d : Kd α} {ok : α → Prop} {f : Field} {o : Nat} (hf : Opens P f.type d ok) (ho : f.offset = o) (hc : P.cellsOf f.type = d.sz) : Parts P [f] o d ok := by
 intro H enc w base spare held fuel cs hl h
 obtain ⟨x, hx⟩ := h f (by simp)
 rw [ho, hc, List.take_of_length_le (by rw [List.length_drop]; omega)] at hx
 exact hf _ enc w base spare held fuel _ x hx
theorem parts_cons {α β : Type} {d : Kd α} {ds : Kd β} {ok : α → Prop} {oks : β → Prop} {f : Field} {fs : List Field} {o o' : Nat} (hf : Opens P f.type d ok) (ho : f.offset = o) (hc : P.cellsOf f.type = d.sz) (hs : Parts P fs o' ds oks) (ho' : o' = o + d.sz) : Parts P (f :: fs) o (Kd.pair d ds) (fun p => ok p.1 ∧ oks p.2) := by
 intro H enc w base spare held fuel cs hl h
 subst ho'
 have hl' : cs.length = o + (d.sz + ds.sz) := hl
 obtain ⟨x, hx⟩ := h f (by simp)
 rw [ho, hc] at hx
 obtain ⟨y, hy, oy⟩ := hf _ enc w base spare held fuel _ x hx
 obtain ⟨z, hz, oz⟩ := hs _ enc w base spare held fuel cs (by omega) (fun g hg => h g (by simp [hg]))
 refine ⟨(y, z), ⟨(cs.drop o).take d.sz, cs.drop (o + d.sz), ?_, hy, hz⟩, oy, oz⟩
 rw [← List.drop_drop]
 exact (List.take_append_drop _ _).symm
theorem opens_struct {t : TypeId} {fs : Array Field} {α β : Type} {d : Kd α} {ok : α → Prop} (hu : P.underlying t = some (.struct fs)) (hp : Parts P fs.toList 0 d ok) (hc : P.cellsOf t = d.sz) (f : β → α) (g : α → β) (hg : ∀ y, f (g y) = y) : Opens P t (Kd.iso d f) (fun y => ok (f y)) := by
 intro H enc w base spare held fuel cs x h
 obtain ⟨xs, n, _, _, hl, hlen, hi⟩ := DataW.trod_struct hu h
 obtain ⟨y, hy, oy⟩ := hp _ enc w base spare held n cs (by omega) (fun fl hfl => by
  obtain ⟨i, hlt, he⟩ := List.getElem_of_mem hfl
  have hlt' : i < fs.size := by simpa using hlt
  have := hi i fl (by rw [Array.getElem?_eq_getElem hlt']; simpa using he)
  rw [List.getElem?_eq_getElem (by omega)] at this
  exact ⟨_, this⟩)
 refine ⟨g y, ?_, ?_⟩
 ·show d.K w (f (g y)) cs
  rw [hg]
  simpa using hy
 ·show ok (f (g y))
  rw [hg]
  exact oy
theorem arg_struct {t : TypeId} {fs : Array Field} {α : Type} {d : Kd α} {ok : α → Prop} (hu : P.underlying t = some (.struct fs)) (ho : Opens P t d ok) {H : Type} {enc : TypeId × Value → H} {w : World} {base b0 : Nat} {spare : Nat → Bool} {held : Bool} {r : Reach} {v : Value} {x : DataW H} {p : List MemPlace}
  (hv : Value.okWide P w r b0 t v) (h : DataW.Trod enc P w base spare held t v x p) : ∃ (y : α) (cs : List Value), v = .agg cs.toArray ∧ d.K w y cs ∧ ok y := by
 obtain ⟨cs, rfl, _⟩ := okWide_struct hu hv
 obtain ⟨fuel, hf⟩ := h
 obtain ⟨y, hy, oy⟩ := ho _ enc w base spare held fuel _ _ hf
 exact ⟨y, cs.toList, by simp, by simpa [Value.cells] using hy, oy⟩
end Go.Proofs.Ytonhdiemjgdcnaa.Opened
namespace Go.Proofs.Ytonhdiemjgdcnaa.PFnExactGivePage
open Go.ChangeShapes Go.WideShapes Go.ChangeAt Go.RowKit
open Go.ChangeMaps (open_string shut_string)
open Go.Proofs.Ytonhdiemjgdcnaa.Opened Go.Proofs.YtonhdiemjgdcnaaW.PrintWords
def dDisk : Kd (List ByteArray × List S140) := Kd.pair (Kd.slice 9 Kd.string) (Kd.slice 140 k140)
def okDisk (p : List ByteArray × List S140) : Prop := (∀ s ∈ p.1, s.size ≤ 9223372036854775807) ∧ ∀ s ∈ p.2, s.f1.size ≤ 9223372036854775807
theorem opens140 : Opens Try.prog 140 k140 (fun s => s.f1.size ≤ 9223372036854775807) := by
 have h := opens_struct (P := Try.prog) Try.underlying140 (parts_cons (opens_int Try.underlying3) rfl (by kernel_rfl) (parts_last (opens_string Try.underlying9) rfl (by kernel_rfl)) rfl) (by kernel_rfl) (fun x : S140 => (x.f0, x.f1)) (fun p => ⟨p.1, p.2⟩) (fun _ => rfl)
 intro H enc w base spare held fuel cs x hx
 obtain ⟨y, h1, h2⟩ := h _ enc w base spare held fuel cs x hx
 exact ⟨y, h1, h2.2⟩
theorem opens25 : Opens Try.prog 25 (Kd.iso dDisk id) okDisk :=
 opens_struct (P := Try.prog) Try.underlying25 (parts_cons (opens_slice Try.underlying22 (opens_string Try.underlying9) (by kernel_rfl) 9) rfl (by kernel_rfl) (parts_last (opens_slice Try.underlying23 opens140 (by kernel_rfl) 140) rfl (by kernel_rfl)) rfl) (by kernel_rfl) id id (fun _ => rfl)
theorem opens_bool {P : Program} {t : TypeId} (hu : P.underlying t = some .bool) : Opens P t Kd.bool (fun _ => True) := by
 intro H enc w base spare held fuel cs x h
 obtain ⟨n, rfl, _⟩ := DataW.trod_bool hu h
 exact ⟨n, rfl, trivial⟩
theorem opens183 : Opens Try.prog 183 k183 (fun s => True ∧ ∀ y ∈ s.f1, True) :=
 opens_struct (P := Try.prog) Try.underlying183 (parts_cons (opens_int Try.underlying3) rfl (by kernel_rfl) (parts_last (opens_slice Try.underlying26 (opens_int Try.underlying3) (by kernel_rfl) 3) rfl (by kernel_rfl)) rfl) (by kernel_rfl) (fun x : S183 => (x.f0, x.f1)) (fun p => ⟨p.1, p.2⟩) (fun _ => rfl)
theorem opens69 : Opens Try.prog 69 k69 (fun x => True ∧ True ∧ True ∧ ∀ s ∈ x.f3, True ∧ ∀ y ∈ s.f1, True) :=
 opens_struct (P := Try.prog) Try.underlying69 (parts_cons (opens_int Try.underlying3) rfl (by kernel_rfl) (parts_cons (opens_int Try.underlying3) rfl (by kernel_rfl) (parts_cons (opens_int Try.underlying3) rfl (by kernel_rfl) (parts_last (opens_slice Try.underlying67 opens183 (by kernel_rfl) 183) rfl (by kernel_rfl)) rfl) rfl) rfl) (by kernel_rfl) (fun x : S69 => (x.f0, x.f1, x.f2, x.f3)) (fun p => ⟨p.1, p.2.1, p.2.2.1, p.2.2.2⟩) (fun _ => rfl)
theorem opens154 : ∃ ok, Opens Try.prog 154 k154 ok := ⟨_,
 opens_struct (P := Try.prog) Try.underlying154 (parts_cons (opens_int Try.underlying3) rfl (by kernel_rfl) (parts_last opens69 rfl (by kernel_rfl)) rfl) (by kernel_rfl) (fun x : S154 => (x.f0, x.f1)) (fun p => ⟨p.1, p.2⟩) (fun _ => rfl)⟩
def dWork : Kd ((List ByteArray × List S140) × Int × List Int × List Int × List Int) := Kd.pair (Kd.iso dDisk id) (Kd.pair (Kd.int .i64) (Kd.pair (Kd.slice 3 (Kd.int .i64)) (Kd.pair (Kd.slice 3 (Kd.int .i64)) (Kd.slice 3 (Kd.int .i64)))))
theorem opensI : Opens Try.prog 26 (Kd.slice 3 (Kd.int .i64)) (fun ys => ∀ y ∈ ys, True) := opens_slice Try.underlying26 (opens_int Try.underlying3) (by kernel_rfl) 3
def unW (p : (List ByteArray × List S140) × Int × List Int × List Int × List Int) : (List ByteArray × List S140 × Int × List Int × List Int × List Int) := (p.1.1, p.1.2, p.2)
def reW (p : (List ByteArray × List S140 × Int × List Int × List Int × List Int)) : (List ByteArray × List S140) × Int × List Int × List Int × List Int := ((p.1, p.2.1), p.2.2)
theorem opens28 : ∃ ok, Opens Try.prog 28 (Kd.iso dWork reW) ok ∧ ∀ x, ok x → okDisk (x.1, x.2.1) := ⟨_,
 opens_struct (P := Try.prog) Try.underlying28 (parts_cons opens25 rfl (by kernel_rfl) (parts_cons (opens_int Try.underlying3) rfl (by kernel_rfl) (parts_cons opensI rfl (by kernel_rfl) (parts_cons opensI rfl (by kernel_rfl) (parts_last opensI rfl (by kernel_rfl)) rfl) rfl) rfl) rfl) (by kernel_rfl) reW unW (fun _ => rfl), fun x h => h.1⟩
def dTxn : Kd (S69 × (List ByteArray × List S140 × Int × List Int × List Int × List Int) × Int) := Kd.pair k69 (Kd.pair (Kd.iso dWork reW) (Kd.int .i64))
theorem opens72 : ∃ ok, Opens Try.prog 72 (Kd.iso dTxn id) ok ∧ ∀ x, ok x → okDisk (x.2.1.1, x.2.1.2.1) := by
 obtain ⟨ok, h, ho⟩ := opens28
 exact ⟨_, opens_struct (P := Try.prog) Try.underlying72 (parts_cons opens69 rfl (by kernel_rfl) (parts_cons h rfl (by kernel_rfl) (parts_last (opens_int Try.underlying3) rfl (by kernel_rfl)) rfl) rfl) (by kernel_rfl) id id (fun _ => rfl), fun x h => ho _ h.2.1⟩
def dStore : Kd ((List ByteArray × List S140) × S69 × List S154 × (S69 × (List ByteArray × List S140 × Int × List Int × List Int × List Int) × Int) × Bool × Bool) := Kd.pair (Kd.iso dDisk id) (Kd.pair k69 (Kd.pair (Kd.slice 154 k154) (Kd.pair (Kd.iso dTxn id) (Kd.pair Kd.bool Kd.bool))))
theorem opens74 : ∃ ok, Opens Try.prog 74 (Kd.iso dStore id) ok ∧ ∀ x, ok x → okDisk x.1 ∧ okDisk (x.2.2.2.1.2.1.1, x.2.2.2.1.2.1.2.1) := by
 obtain ⟨ok, h, ho⟩ := opens72
 obtain ⟨ok2, h2⟩ := opens154
 exact ⟨_, opens_struct (P := Try.prog) Try.underlying74 (parts_cons opens25 rfl (by kernel_rfl) (parts_cons opens69 rfl (by kernel_rfl) (parts_cons (opens_slice Try.underlying70 h2 (by kernel_rfl) 154) rfl (by kernel_rfl) (parts_cons h rfl (by kernel_rfl) (parts_cons (opens_bool Try.underlying4) rfl (by kernel_rfl) (parts_last (opens_bool Try.underlying4) rfl (by kernel_rfl)) rfl) rfl) rfl) rfl) rfl) (by kernel_rfl) id id (fun _ => rfl), fun x h => ⟨h.1, ho _ h.2.2.2.1⟩⟩
theorem C183_len {w : World} {A : Option Addr} {xs : List S183} (h : Kd.C k183 w A xs.length xs) : INm xs := by
 refine ⟨fun s hs => ?_, h.2.1⟩
 obtain ⟨j, hj, rfl⟩ := List.getElem_of_mem hs
 obtain ⟨_, _, _, _, _, _, _, hC⟩ := at_T183 h (j : Int) (by omega) (by omega)
 rw [rd_T183_nat _ _ hj] at hC
 exact hC.2.1
theorem K69_len {w : World} {x : S69} {cs : List Value} (h : k69.K w x cs) : INm x.f3 := by
 obtain ⟨A, c, rfl, m, r⟩ := k69_open h
 exact C183_len r
theorem C154_len {w : World} {A : Option Addr} {xs : List S154} (h : Kd.C k154 w A xs.length xs) : ∀ s ∈ xs, INm s.f1.f3 := by
 intro s hs
 obtain ⟨j, hj, rfl⟩ := List.getElem_of_mem hs
 obtain ⟨_, _, _, _, _, _, _, _, _, _, hC⟩ := at_T154 h (j : Int) (by omega) (by omega)
 rw [rd_T154_nat _ _ hj] at hC
 exact C183_len hC
theorem KD_len {w : World} {x : List ByteArray × List S140} {cs : List Value} (h : kDiskL.K w x cs) (ho : okDisk x) : INd x.1 x.2 := by
 obtain ⟨p, q⟩ := x
 obtain ⟨A0, c0, A1, c1, rfl, m0, r0, m1, r1⟩ := kDiskL_open h
 exact ⟨ho.1, r0.2.1, ho.2, r1.2.1⟩
theorem KW_len {w : World} {x : (List ByteArray × List S140 × Int × List Int × List Int × List Int)} {cs : List Value} (h : kWorkL.K w x cs) (ho : okDisk (x.1, x.2.1)) : INd x.1 x.2.1 ∧ INi x.2.2.2.1 ∧ INi x.2.2.2.2.1 ∧ INi x.2.2.2.2.2 := by
 obtain ⟨l0, l1, l2, l3, l4, l5⟩ := x
 obtain ⟨A0, c0, A1, c1, A3, c3, A4, c4, A5, c5, rfl, m0, r0, m1, r1, m3, r3, m4, r4, m5, r5⟩ := kWorkL_open h
 exact ⟨⟨ho.1, r0.2.1, ho.2, r1.2.1⟩, r3.2.1, r4.2.1, r5.2.1⟩
theorem Kw_of {w : World} {x : (List ByteArray × List S140 × Int × List Int × List Int × List Int)} {cs : List Value} (h : (Kd.iso dWork reW).K w x cs) : kWorkL.K w x cs := by
 obtain ⟨l0, l1, l2, l3, l4, l5⟩ := x
 obtain ⟨_, _, rfl, ⟨_, _, rfl, ⟨A0, c0, rfl, m0, r0⟩, ⟨A1, c1, rfl, m1, r1⟩⟩, ⟨_, _, rfl, rfl, ⟨_, _, rfl, ⟨A3, c3, rfl, m3, r3⟩, ⟨_, _, rfl, ⟨A4, c4, rfl, m4, r4⟩, ⟨A5, c5, rfl, m5, r5⟩⟩⟩⟩⟩ := h
 exact kWorkL_mk m0 r0 m1 r1 m3 r3 m4 r4 m5 r5
theorem Kt_of {w : World} {x : (S69 × (List ByteArray × List S140 × Int × List Int × List Int × List Int) × Int)} {cs : List Value} (h : dTxn.K w x cs) : kTxnL.K w x cs := by
 obtain ⟨c0, c1, rfl, h0, c2, c3, rfl, h1, h2⟩ := h
 exact ⟨c0, _, rfl, h0, c2, c3, rfl, Kw_of h1, h2⟩
def INt (x : (S69 × (List ByteArray × List S140 × Int × List Int × List Int × List Int) × Int)) : Prop := INm x.1.f3 ∧ INd x.2.1.1 x.2.1.2.1 ∧ INi x.2.1.2.2.2.1 ∧ INi x.2.1.2.2.2.2.1 ∧ INi x.2.1.2.2.2.2.2
theorem KT_len {w : World} {x : (S69 × (List ByteArray × List S140 × Int × List Int × List Int × List Int) × Int)} {cs : List Value} (h : kTxnL.K w x cs) (ho : okDisk (x.2.1.1, x.2.1.2.1)) : INt x := by
 obtain ⟨c0, c1, rfl, h0, c2, c3, rfl, h1, h2⟩ := h
 exact ⟨K69_len h0, KW_len h1 ho⟩
theorem open_store {H : Type} {enc : TypeId × Value → H} {w : World} {base b0 : Nat} {spare : Nat → Bool} {held : Bool} {r : Reach} {v : Value} {x : DataW H} {p : List MemPlace} (hv : Value.okWide Try.prog w r b0 74 v) (h : DataW.Trod enc Try.prog w base spare held 74 v x p) :
  ∃ (a : ((List ByteArray × List S140) × S69 × List S154 × (S69 × (List ByteArray × List S140 × Int × List Int × List Int × List Int) × Int) × Bool × Bool)) (cs : List Value), v = .agg cs.toArray ∧ kStoreL.K w a cs ∧ INs a := by
 obtain ⟨ok, ho, hk⟩ := opens74
 obtain ⟨a, cs, rfl, h1, h2⟩ := arg_struct Try.underlying74 ho hv h
 have g := hk _ h2
 obtain ⟨c0, _, rfl, h0, c1, _, rfl, h1, c2, _, rfl, h2, c3, _, rfl, h3, h4⟩ := h1
 have t := KT_len (Kt_of h3) g.2
 have hD : kDiskL.K w a.1 c0 := by
  obtain ⟨_, _, rfl, ⟨A0, c0, rfl, m0, r0⟩, ⟨A1, c1, rfl, m1, r1⟩⟩ := h0
  exact ⟨_, _, rfl, ⟨A0, c0, rfl, m0, r0⟩, ⟨A1, c1, rfl, m1, r1⟩⟩
 obtain ⟨AR, cR, rfl, mR, rR⟩ := h2
 exact ⟨a, _, rfl, ⟨c0, _, rfl, hD, c1, _, rfl, h1, _, _, rfl, ⟨AR, cR, rfl, mR, rR⟩, c3, _, rfl, Kt_of h3, h4⟩, KD_len hD g.1, K69_len h1, ⟨C154_len rR, rR.2.1⟩, t⟩
end Go.Proofs.Ytonhdiemjgdcnaa.PFnExactGivePage
