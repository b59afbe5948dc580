import Derived.Test.YtonhdiemjgdcnaaRE6
set_option maxHeartbeats 64000000
set_option maxRecDepth 100000
set_option linter.unusedVariables false
set_option linter.unusedSimpArgs false
namespace Go.Proofs.Ytonhdiemjgdcnaa.PFnExactGivePage
open Go.RowKit Go.Proofs.YtonhdiemjgdcnaaW.PrintWords Go.Proofs.YtonhdiemjgdcnaaW.PrintLast Go.Proofs.YtonhdiemjgdcnaaW.PrintMore
attribute [local go_sem] max2_int min2_int max_two min_two max_three min_three max_four min_four
theorem inSq (a lo hi : Int) (w : World) (n : Nat) : Calls Try.prog 108 #[.int .i64 a, .int .i64 lo, .int .i64 hi] (w.drewN n) fun e w'' => e = .returned (.bool (inB a lo hi)) ∧ ∃ m, w'' = w.drewN m := (inS a lo hi _).mono fun _ _ h => ⟨h.1, n, h.2.symm⟩
theorem hasSq (xs : List Int) (x : Int) (A : Option Addr) (c : Nat) (w : World) (n : Nat) (h : Kd.C (Kd.int .i64) w A xs.length xs) (hl : xs.length ≤ 2000000) : Calls Try.prog 91 #[.slice A xs.length c, .int .i64 x] (w.drewN n) fun e w'' => e = .returned (.bool (hasB xs x)) ∧ ∃ m, w'' = w.drewN m := (hasS xs x A c _ (Kd.C_drewN h n) hl).mono fun _ _ h => ⟨h.1, n, h.2.symm⟩
structure SeenAt (w w' : World) (cs : List Value) (seen : List Int) (v : Value) : Prop where
 row : Kd.R (Kd.int .i64) 3 w' w.heap.size (fun k => w.heap.size < k) v seen
 box : w'.heap[w.heap.size]? = some (.cells cs.toArray 53 (0, 0))
 bel : Below w.heap.size w w'
theorem SeenAt.step {w w' w2 : World} {cs : List Value} {seen : List Int} {v : Value} (h : SeenAt w w' cs seen v) (hb : Below w'.heap.size w' w2) : SeenAt w w2 cs seen v := ⟨Kd.R_below h.row hb, blk_below h.box hb, below_step h.bel hb⟩
theorem R_one (n : Int) (base : Nat) (w : World) (ok : Nat → Prop) (hb : base ≤ w.heap.size) (hok : ok w.heap.size) : Kd.R (Kd.int .i64) 3 (w.alloc (.cells #[.int .i64 n] 3)) base ok (.slice (some ⟨w.heap.size, 0, none⟩) 1 1) [n] :=
 ⟨fun k hk => by simp [Value.ownBlock] at hk; rw [← hk]; exact hok, [.int .i64 n], ⟨rfl, .inr ⟨w.heap.size, 1, #[.int .i64 n], rfl, hb, heap_alloc_new w _, Nat.le_refl _, by decide, rfl, rfl⟩⟩, Reps.one (rfl : (Kd.int .i64).M _ base _ n [.int .i64 n]) (Reps.none _ _)⟩
theorem seen0 (x : S53) (cs : List Value) (w : World) : SeenAt w ((w.alloc (.cells cs.toArray 53)).alloc (.cells #[.int .i64 x.f1] 3)) cs (seenAt x 0) (.slice (some ⟨w.heap.size + 1, 0, none⟩) 1 1) := by
 refine ⟨?_, blk_alloc (blk_new w _) _, below_alloc (below_alloc (Below.refl _ _) _) _⟩
 have h := R_one x.f1 w.heap.size (w.alloc (.cells cs.toArray 53)) (fun k => w.heap.size < k) (by simp) (by simp)
 rwa [show (w.alloc (.cells cs.toArray 53)).heap.size = w.heap.size + 1 by simp] at h
theorem drewN_below (w : World) (n : Nat) : Below w.heap.size w (w.drewN n) := pw_below_drewN (Below.refl _ _) n
theorem cell_step {w w2 : World} {a : Addr} {v : Value} (h : w.cell? a = some v) (hb : Below w.heap.size w w2) : w2.cell? a = some v := (hb.cell (World.block_lt_of_cell? w _ h)).trans h
theorem bfalse {b : Bool} {p : Prop} (h : b = true ↔ p) (hn : ¬ p) : false = b := by
 cases b
 ·rfl
 ·exact absurd (h.1 rfl) hn
theorem fr_ways (x : S53) (i : Nat) (f : S122) (b : Bool) (hb : b = true ↔ MOk x) (hi : x.f3[i]? = some f) :
  (false = b ∧ ((inB f.f0 1 x.f0 = false) ∨ (inB f.f0 1 x.f0 = true ∧ i = 0 ∧ inB (f.f1.length : Int) 1 40 = false) ∨ (inB f.f0 1 x.f0 = true ∧ ∃ p, x.f3[i - 1]? = some p ∧ 0 < i ∧ f.f0 ≤ p.f0) ∨ (inB f.f0 1 x.f0 = true ∧ ∃ p, x.f3[i - 1]? = some p ∧ 0 < i ∧ ¬ f.f0 ≤ p.f0 ∧ inB (f.f1.length : Int) 1 40 = false))) ∨
  (FrHead x i f ∧ inB f.f0 1 x.f0 = true ∧ inB (f.f1.length : Int) 1 40 = true ∧ (i = 0 ∨ ∃ p, x.f3[i - 1]? = some p ∧ 0 < i ∧ ¬ f.f0 ≤ p.f0)) := by
 have hilt := (List.getElem?_eq_some_iff.1 hi).1
 have nb : ¬ FrHead x i f → false = b := fun h => bfalse hb (fun hm => h (hm.2 i f hi).1)
 by_cases h1 : 1 ≤ f.f0 ∧ f.f0 ≤ x.f0
 ·by_cases h3 : 1 ≤ (f.f1.length : Int) ∧ (f.f1.length : Int) ≤ 40
  ·by_cases hz : i = 0
   ·exact .inr ⟨⟨h1, fun g h0 _ => absurd h0 (by omega), by omega⟩, inB_t h1, inB_t h3, .inl hz⟩
   ·have hp : x.f3[i - 1]? = some (x.f3[i - 1]'(by omega)) := List.getElem?_eq_getElem (by omega)
    by_cases h2 : f.f0 ≤ (x.f3[i - 1]'(by omega)).f0
    ·exact .inl ⟨nb (fun h => by have := h.2.1 _ (by omega) hp; omega), .inr (.inr (.inl ⟨inB_t h1, _, hp, by omega, h2⟩))⟩
    ·exact .inr ⟨⟨h1, fun g _ hg => by rw [hp] at hg; injection hg with hg; subst hg; omega, by omega⟩, inB_t h1, inB_t h3, .inr ⟨_, hp, by omega, h2⟩⟩
  ·have nh : false = b := nb (fun h => h3 (by have := h.2.2; omega))
   by_cases hz : i = 0
   ·exact .inl ⟨nh, .inr (.inl ⟨inB_t h1, hz, inB_f h3⟩)⟩
   ·have hp : x.f3[i - 1]? = some (x.f3[i - 1]'(by omega)) := List.getElem?_eq_getElem (by omega)
    by_cases h2 : f.f0 ≤ (x.f3[i - 1]'(by omega)).f0
    ·exact .inl ⟨nh, .inr (.inr (.inl ⟨inB_t h1, _, hp, by omega, h2⟩))⟩
    ·exact .inl ⟨nh, .inr (.inr (.inr ⟨inB_t h1, _, hp, by omega, h2, inB_f h3⟩))⟩
 ·exact .inl ⟨nb (fun h => h1 h.1), .inl (inB_f h1)⟩
theorem pg_ways (x : S53) (i : Nat) (f : S122) (k : Nat) (p : Int) (b : Bool) (hb : b = true ↔ MOk x) (hi : x.f3[i]? = some f) (hk : f.f1[k]? = some p) :
  (false = b ∧ ((inB p 2 (x.f2 - 1) = false) ∨ (inB p 2 (x.f2 - 1) = true ∧ k = 0 ∧ hasB (seenAt x i ++ f.f1.take k) p = true) ∨ (inB p 2 (x.f2 - 1) = true ∧ ∃ q, f.f1[k - 1]? = some q ∧ 0 < k ∧ p ≤ q) ∨ (inB p 2 (x.f2 - 1) = true ∧ ∃ q, f.f1[k - 1]? = some q ∧ 0 < k ∧ ¬ p ≤ q ∧ hasB (seenAt x i ++ f.f1.take k) p = true))) ∨
  (PgOk x (seenAt x i) f.f1 k p ∧ inB p 2 (x.f2 - 1) = true ∧ hasB (seenAt x i ++ f.f1.take k) p = false ∧ (k = 0 ∨ ∃ q, f.f1[k - 1]? = some q ∧ 0 < k ∧ ¬ p ≤ q)) := by
 have hklt := (List.getElem?_eq_some_iff.1 hk).1
 have nb : ¬ PgOk x (seenAt x i) f.f1 k p → false = b := fun h => bfalse hb (fun hm => h ((hm.2 i f hi).2 k p hk))
 by_cases h1 : 2 ≤ p ∧ p ≤ x.f2 - 1
 ·by_cases h3 : p ∈ seenAt x i ++ f.f1.take k
  ·have nh : false = b := nb (fun h => h.2.2 h3)
   have h3' : hasB (seenAt x i ++ f.f1.take k) p = true := decide_eq_true h3
   by_cases hz : k = 0
   ·exact .inl ⟨nh, .inr (.inl ⟨inB_t h1, hz, h3'⟩)⟩
   ·have hp : f.f1[k - 1]? = some (f.f1[k - 1]'(by omega)) := List.getElem?_eq_getElem (by omega)
    by_cases h2 : p ≤ f.f1[k - 1]'(by omega)
    ·exact .inl ⟨nh, .inr (.inr (.inl ⟨inB_t h1, _, hp, by omega, h2⟩))⟩
    ·exact .inl ⟨nh, .inr (.inr (.inr ⟨inB_t h1, _, hp, by omega, h2, h3'⟩))⟩
  ·have h3' : hasB (seenAt x i ++ f.f1.take k) p = false := decide_eq_false h3
   by_cases hz : k = 0
   ·exact .inr ⟨⟨h1, fun q h0 _ => absurd h0 (by omega), h3⟩, inB_t h1, h3', .inl hz⟩
   ·have hp : f.f1[k - 1]? = some (f.f1[k - 1]'(by omega)) := List.getElem?_eq_getElem (by omega)
    by_cases h2 : p ≤ f.f1[k - 1]'(by omega)
    ·exact .inl ⟨nb (fun h => by have := h.2.1 _ (by omega) hp; omega), .inr (.inr (.inl ⟨inB_t h1, _, hp, by omega, h2⟩))⟩
    ·exact .inr ⟨⟨h1, fun g _ hg => by rw [hp] at hg; injection hg with hg; subst hg; omega, h3⟩, inB_t h1, h3', .inr ⟨_, hp, by omega, h2⟩⟩
 ·exact .inl ⟨nb (fun h => h1 h.1), .inl (inB_f h1)⟩
theorem seen_app {ops : Array Oper} {rest : List Oper} {o : Oper} {a : Act} {Q : Exit → Act → World → Prop} {w W : World} {cs cf : List Value} {seen : List Int} {v : Value} {gF : Nat} {p : Int} (hgd : o.guard = none) (s y : Operand) (ho : o.op = .call { callee := .builtin .append, args := #[s, y], argTypes := #[26, 26] }) (hs : a.eval s = v) (hy : a.eval y = .slice (some ⟨W.heap.size, 0, none⟩) 1 1)
  (H : SeenAt w W cs seen v) (BF : W.heap[gF]? = some (.cells cf.toArray 122 (0, 0))) (OW : ∀ k, v.ownBlock = some k → k ≠ gF) (hl : seen.length ≤ 2000000)
  (h : ∀ v1 w1, Aside0 (SeenAt w w1 cs (seen ++ [p]) v1) → Aside0 (w1.heap[gF]? = some (.cells cf.toArray 122 (0, 0))) → Aside0 (∀ k, v1.ownBlock = some k → k ≠ gF) → wpList Try.prog ops Q rest (a.put o.dst v1) w1) :
  wpList Try.prog ops Q (o :: rest) a (W.alloc (.cells #[.int .i64 p] 3)) := by
 refine Kd.R_append (Kd.int .i64) (w0 := w) w.heap.size hgd s y 26 3 (.int .i64 0) 8 ho Try.underlying26 info3 rfl (by decide) (by decide) v seen p [.int .i64 p] (fun k => w.heap.size < k) (fun _ => False) hs hy rfl (fun _ h => h.elim) (fun k hk => Nat.lt_of_lt_of_le (blk_lt H.box) hk) H.row H.bel H.bel.size (by omega) ?_
 intro v1 w1 hr hb hg hat
 have hv : ∀ k, v.ownBlock = some k → w.heap.size < k := H.row.1
 refine h v1 w1 ⟨hr, blk_grown H.box hg (fun e => by have := hv _ e.symm; omega), hb⟩ ⟨blk_grown BF hg (fun e => OW _ e.symm rfl)⟩ ⟨fun k hk => ?_⟩
 rcases hat with hat | ⟨b, hb2, hle⟩
 ·exact OW k (by rw [← hat]; exact hk)
 ·rw [hb2] at hk
  injection hk with hk
  have := blk_lt BF
  omega
theorem seen_len2 {x : S53} {i : Nat} (h0 : ∀ (j : Nat) (f : S122), j < i → x.f3[j]? = some f → f.f1.length ≤ 40) : ∀ n, n ≤ i → n ≤ x.f3.length → (seenAt x n).length ≤ 1 + 40 * n
 | 0, _, _ => by simp [seenAt]
 | n + 1, hi, h => by
  have he : x.f3[n]? = some x.f3[n] := List.getElem?_eq_getElem h
  rw [seen_succ he, List.length_append]
  have := seen_len2 h0 n (by omega) (by omega)
  have := h0 n _ (by omega) he
  omega
theorem mh_ways (x : S53) (h : ¬ MHead x) : (inB x.f0 0 100000 = false) ∨ (inB x.f0 0 100000 = true ∧ inB x.f2 2 40 = false) ∨ ((inB x.f0 0 100000 = true ∧ inB x.f2 2 40 = true ∧ 2 ≤ x.f2 ∧ x.f2 ≤ 40) ∧ (((x.f1 != 0) = true ∧ (x.f1 == 0) = false ∧ inB x.f1 2 (x.f2 - 1) = false) ∨ (((x.f1 != 0) = false ∧ (x.f1 == 0) = true) ∧ (20 < (x.f3.length : Int)) = True) ∨ (((x.f1 != 0) = true ∧ (x.f1 == 0) = false ∧ inB x.f1 2 (x.f2 - 1) = true) ∧ (20 < (x.f3.length : Int)) = True))) := by
 by_cases h0 : 0 ≤ x.f0 ∧ x.f0 ≤ 100000
 ·by_cases h2 : 2 ≤ x.f2 ∧ x.f2 ≤ 40
  ·refine .inr (.inr ⟨⟨inB_t h0, inB_t h2, h2⟩, ?_⟩)
   by_cases h1 : x.f1 = 0
   ·refine .inr (.inl ⟨⟨by simp [h1], by simp [h1]⟩, eq_true ?_⟩)
    have : ¬ x.f3.length ≤ 20 := fun hl => h ⟨h0, h2, .inl h1, hl⟩
    omega
   ·by_cases h3 : 2 ≤ x.f1 ∧ x.f1 ≤ x.f2 - 1
    ·refine .inr (.inr ⟨⟨by simp [h1], by simp [h1], inB_t h3⟩, eq_true ?_⟩)
     have : ¬ x.f3.length ≤ 20 := fun hl => h ⟨h0, h2, .inr h3, hl⟩
     omega
    ·exact .inl ⟨by simp [h1], by simp [h1], inB_f h3⟩
  ·exact .inr (.inl ⟨inB_t h0, inB_f h2⟩)
 ·exact .inl (inB_f h0)
theorem prev_at {w : World} {A : Option Addr} {n : Nat} {xs : List S122} (h : Kd.C k122 w A n xs) {i : Nat} {p : S122} (hp : xs[i]? = some p) : ∃ ad, A = some ad ∧ w.cell? (ad.add (i * 2)) = some (.int .i64 p.f0) := by
 obtain ⟨hi, rfl⟩ := List.getElem?_eq_some_iff.1 hp
 obtain ⟨ad, v, cs, e, hk, hc, -⟩ := elem_at h hi (by decide)
 refine ⟨ad, e, ?_⟩
 obtain ⟨A_, c_, hcs, -⟩ := k122_open hk
 injection hcs with h1 h2
 rw [← h1]
 exact hc
theorem specMetaOk_c (x : S53) (b : Bool) {cs : List Value} (w : World) (h : k53.K w x cs) (hb : b = true ↔ MOk x) :
  Calls Try.prog 138 #[.agg cs.toArray] w fun e w' => e = .returned (.bool b) ∧ Below w.heap.size w w' := by
 obtain ⟨AF, cF, rfl, mF, rF⟩ := k53_open h
 have KR := Aside0.mk rF
 have HB := Aside0.mk hb
 have bn := rF.2.1
 have hbl := Aside0.mk (below_alloc (Below.refl w.heap.size w) (.cells #[.int .i64 x.f0, .int .i64 x.f1, .int .i64 x.f2, .slice AF x.f3.length cF] 53))
 have BA0 := Aside0.mk (blk_new w (.cells #[.int .i64 x.f0, .int .i64 x.f1, .int .i64 x.f2, .slice AF x.f3.length cF] 53))
 clear h mF rF hb
 by_cases hh : MHead x
 ·obtain ⟨h0, h2, h1, hl⟩ := hh
  have HH := Aside0.mk (show MHead x from ⟨h0, h2, h1, hl⟩)
  have e0 := inB_t h0
  have e2 := inB_t h2
  have bl : (20 < (x.f3.length : Int)) = False := eq_false (by omega)
  obtain ⟨h2a, h2b⟩ := h2
  clear h0
  have hv : ((x.f1 != 0) = false ∧ (x.f1 == 0) = true) ∨ ((x.f1 != 0) = true ∧ (x.f1 == 0) = false ∧ inB x.f1 2 (x.f2 - 1) = true) := by
   rcases h1 with h1 | h1
   ·exact .inl (by simp [h1])
   ·exact .inr ⟨by simp; omega, by simp; omega, inB_t h1⟩
  clear h1
  rcases hv with ⟨e1, e1'⟩ | ⟨e1, e1', e1''⟩
  all_goals
   go_enter Try.func138, Try.ntmps138
   go_wp2_with (((with_reducible refine (inS _ _ _ _).mono ?_); rintro e w1 ⟨rfl, rfl⟩))
   have H0 := Aside0.mk (seen0 x [.int .i64 x.f0, .int .i64 x.f1, .int .i64 x.f2, .slice AF x.f3.length cF] w)
   go_loopg [3, 4] (x.f3.length + 1) (fun kq v3 v4 w' => ∃ (i : Nat) (v : Value), v3 = v ∧ v4 = .int .i64 (i : Int) ∧ Aside0 (kq + i = x.f3.length + 1) ∧ Aside0 (i ≤ x.f3.length) ∧ Aside0 (∀ (j : Nat) (f : S122), j < i → x.f3[j]? = some f → FrHead x j f ∧ FrPages x j f) ∧ Aside0 (SeenAt w w' [.int .i64 x.f0, .int .i64 x.f1, .int .i64 x.f2, .slice AF x.f3.length cF] (seenAt x i) v))
   case atStart => exact ⟨0, _, rfl, rfl, ⟨by omega⟩, ⟨Nat.zero_le _⟩, ⟨fun j f h => absurd h (Nat.not_lt_zero _)⟩, H0⟩
   case round =>
    clear H0 e0 e1 e1' e2 bl BA0 hbl
    obtain ⟨i, v, rfl, rfl, HQ, HI, HP, HS⟩ := hrel
    have hp3 : wr.cell? ⟨w.heap.size, 3, none⟩ = some (.slice AF x.f3.length cF) := (blk_cell HS.out.box 3).trans rfl
    by_cases hlt : i < x.f3.length
    ·have c1 : decide ((i : Int) < (x.f3.length : Int)) = true := decide_eq_true (by omega)
     have c0 : decide ((0 : Int) ≤ (i : Int)) = true := decide_eq_true (by omega)
     have c2 : ((i : Int) < (x.f3.length : Int)) = True := eq_true (by omega)
     have c3 : ((0 : Int) ≤ (i : Int)) = True := eq_true (by omega)
     cases gk with
     | zero => exact absurd HQ.out (by omega)
     | succ k1 =>
      obtain ⟨ad, A1, c1_, hA, z0, z1, hl4, hC4⟩ := at_T122 KR.out (i : Int) (by omega) (by omega)
      subst hA
      obtain ⟨el, hel⟩ : ∃ el, el = rd_T122 x.f3 (i : Int) := ⟨_, rfl⟩
      have hel2 : x.f3[i]? = some el := by rw [hel]; simp [rd_T122, List.getD_eq_getElem?_getD, List.getElem?_eq_getElem hlt]
      rw [← hel] at z0 z1 hl4 hC4
      simp only [Int.toNat_natCast] at z0 z1
      replace z0 := (HS.out.bel.cell (World.block_lt_of_cell? w _ z0)).trans z0
      replace z1 := (HS.out.bel.cell (World.block_lt_of_cell? w _ z1)).trans z1
      have HE := Aside0.mk hel2
      have KE := Aside0.mk hC4
      have be : el.f1.length ≤ 9223372036854775807 := hC4.2.1
      have hz := blk_lt HS.out.box
      clear hel hel2 hC4 hl4
      go_upto_region 8 with (fail)
      obtain ⟨W1, hW1⟩ : ∃ W1, W1 = wr.alloc (.cells #[.int .i64 el.f0, .slice A1 el.f1.length c1_] 122) := ⟨_, rfl⟩
      have BF := Aside0.mk (show W1.heap[wr.heap.size]? = some (.cells ([.int .i64 el.f0, .slice A1 el.f1.length c1_] : List Value).toArray 122 (0, 0)) from by rw [hW1]; exact blk_new wr _)
      have HB1 := Aside0.mk (show Below wr.heap.size wr W1 from by rw [hW1]; exact below_alloc (Below.refl _ _) _)
      rw [← hW1]
      clear hW1 hp3 z0 z1
      obtain ⟨gF, hgF⟩ : ∃ g, g = wr.heap.size := ⟨_, rfl⟩
      rw [← hgF] at BF hz ⊢
      have OW := Aside0.mk (show ∀ k, u3.ownBlock = some k → k < gF from by rw [hgF]; exact Kd.R_lt HS.out.row)
      replace HS := Aside0.mk (HS.out.step HB1.out)
      clear HB1 hgF
      have hp0 : W1.cell? ⟨w.heap.size, 0, none⟩ = some (.int .i64 x.f0) := (blk_cell HS.out.box 0).trans rfl
      have hp3 : W1.cell? ⟨w.heap.size, 3, none⟩ = some (.slice (some ad) x.f3.length cF) := (blk_cell HS.out.box 3).trans rfl
      have hf0 : W1.cell? ⟨gF, 0, none⟩ = some (.int .i64 el.f0) := (blk_cell BF.out 0).trans rfl
      have hf1 : W1.cell? ⟨gF, 1, none⟩ = some (.slice A1 el.f1.length c1_) := (blk_cell BF.out 1).trans rfl
      have hways := fr_ways x i el b HB.out HE.out
      rcases hways with ⟨hbf, hways⟩ | ⟨hFr, eT, eL, hways⟩
      ·have HBF := Aside0.mk hbf
       clear hbf
       rcases hways with eT | ⟨eT, hz0, eL⟩ | ⟨eT, p, hp, h0, hle⟩ | ⟨eT, p, hp, h0, hle, eL⟩
       ·go_quiet ((go_at_call 108; exact inSq _ _ _ _ _))
        go_wp2
        go_ret
        exact ⟨rb HBF.out, below_step HS.out.bel (drewN_below _ _)⟩
       ·have q1 : decide ((0 : Int) < (i : Int)) = false := decide_eq_false (by omega)
        have q2 : decide (0 < i) = false := decide_eq_false (by omega)
        clear hz0
        go_quiet ((go_at_call 108; exact inSq _ _ _ _ _))
        go_wp2
        go_ret
        exact ⟨rb HBF.out, below_step HS.out.bel (drewN_below _ _)⟩
       ·have q1 : decide ((0 : Int) < (i : Int)) = true := decide_eq_true (by omega)
        have q2 : decide (0 < i) = true := decide_eq_true (by omega)
        have hs1 : IntKind.i64.wrap ((i : Int) - 1) = ((i - 1 : Nat) : Int) := by rw [i64_w]; unfold wrap64; omega
        have hs2 : (0 : Int) ≤ ((i - 1 : Nat) : Int) := by omega
        have hs3 : ((i - 1 : Nat) : Int) < (x.f3.length : Int) := by omega
        obtain ⟨ad2, hA2, zp⟩ := prev_at KR.out hp
        injection hA2 with hA2
        subst hA2
        clear hp
        replace zp := cell_step zp HS.out.bel
        have q3 : decide (el.f0 ≤ p.f0) = true := decide_eq_true hle
        go_quiet ((go_at_call 108; exact inSq _ _ _ _ _))
        go_wp2
        go_ret
        exact ⟨rb HBF.out, below_step HS.out.bel (drewN_below _ _)⟩
       ·have q1 : decide ((0 : Int) < (i : Int)) = true := decide_eq_true (by omega)
        have q2 : decide (0 < i) = true := decide_eq_true (by omega)
        have hs1 : IntKind.i64.wrap ((i : Int) - 1) = ((i - 1 : Nat) : Int) := by rw [i64_w]; unfold wrap64; omega
        have hs2 : (0 : Int) ≤ ((i - 1 : Nat) : Int) := by omega
        have hs3 : ((i - 1 : Nat) : Int) < (x.f3.length : Int) := by omega
        obtain ⟨ad2, hA2, zp⟩ := prev_at KR.out hp
        injection hA2 with hA2
        subst hA2
        clear hp
        replace zp := cell_step zp HS.out.bel
        have q3 : decide (el.f0 ≤ p.f0) = false := decide_eq_false hle
        go_quiet ((go_at_call 108; exact inSq _ _ _ _ _))
        go_wp2
        go_ret
        exact ⟨rb HBF.out, below_step HS.out.bel (drewN_below _ _)⟩
      ·have HFR := Aside0.mk hFr
       have hel1 : el.f1.length ≤ 40 := hFr.2.2.2
       clear hFr
       rcases hways with hz0 | ⟨p, hp, h0, hle⟩
       ·have q1 : decide ((0 : Int) < (i : Int)) = false := decide_eq_false (by omega)
        have q2 : decide (0 < i) = false := decide_eq_false (by omega)
        clear hz0
        go_quiet ((go_at_call 108; exact inSq _ _ _ _ _))
        simp only [eT, eL]
        clear eT eL
        obtain ⟨W2, hW2⟩ : ∃ W2, W2 = W1.drewN nq := ⟨_, rfl⟩
        have HB2 := Aside0.mk (show Below W1.heap.size W1 W2 from by rw [hW2]; exact drewN_below _ _)
        rw [← hW2]
        clear hW2 hp0 hp3 hf0 hf1
        replace HS := Aside0.mk (HS.out.step HB2.out)
        replace BF := Aside0.mk (blk_below BF.out HB2.out)
        clear HB2
        go_wp2
        go_loopg [3, 6] (el.f1.length + 1) (fun kq v3 v6 w' => ∃ (k : Nat) (v : Value), v3 = v ∧ v6 = .int .i64 (k : Int) ∧ Aside0 (kq + k = el.f1.length + 1) ∧ Aside0 (k ≤ el.f1.length) ∧ Aside0 (∀ (j : Nat) (p : Int), j < k → el.f1[j]? = some p → PgOk x (seenAt x i) el.f1 j p) ∧ Aside0 (SeenAt w w' [.int .i64 x.f0, .int .i64 x.f1, .int .i64 x.f2, .slice (some ad) x.f3.length cF] (seenAt x i ++ el.f1.take k) v) ∧ Aside0 (w'.heap[gF]? = some (.cells ([.int .i64 el.f0, .slice A1 el.f1.length c1_] : List Value).toArray 122 (0, 0))) ∧ Aside0 (∀ q, v.ownBlock = some q → q ≠ gF))
        case atStart => exact ⟨0, _, rfl, rfl, ⟨by omega⟩, ⟨Nat.zero_le _⟩, ⟨fun j p h => absurd h (Nat.not_lt_zero _)⟩, ⟨by rw [List.take_zero, List.append_nil]; exact HS.out⟩, BF, ⟨fun q hq => Nat.ne_of_lt (OW.out q hq)⟩⟩
        case round =>
         clear HS BF OW
         obtain ⟨k, v, rfl, rfl, HQ2, HI2, HP2, HS, BF, OW⟩ := hrel
         have hf1 : wr.cell? ⟨gF, 1, none⟩ = some (.slice A1 el.f1.length c1_) := (blk_cell BF.out 1).trans rfl
         obtain ⟨sn, hsn⟩ : ∃ sn, sn = seenAt x i ++ el.f1.take k := ⟨_, rfl⟩
         have hsl : sn.length ≤ 2000 := by
          have h1 := seen_len2 (fun j f hj hf => (HP.out j f hj hf).1.2.2.2) i (Nat.le_refl _) HI.out
          have h2 := List.length_take_le k el.f1
          have h3 := HI.out
          have h4 := HI2.out
          rw [hsn, List.length_append]
          omega
         rw [← hsn] at HS
         have HSN := Aside0.mk hsn
         clear hsn
         obtain ⟨Av, cv, rfl⟩ := Kd.R_slice HS.out.row
         by_cases hk : k < el.f1.length
         ·have d1 : decide ((k : Int) < (el.f1.length : Int)) = true := decide_eq_true (by omega)
          have d0 : decide ((0 : Int) ≤ (k : Int)) = true := decide_eq_true (by omega)
          have d2 : ((k : Int) < (el.f1.length : Int)) = True := eq_true (by omega)
          have d3 : ((0 : Int) ≤ (k : Int)) = True := eq_true (by omega)
          cases gk with
          | zero => exact absurd HQ2.out (by omega)
          | succ k2 =>
           obtain ⟨ap, hAp, pc⟩ := C_at KE.out hk
           subst hAp
           obtain ⟨p, hp⟩ : ∃ p, p = el.f1[k] := ⟨_, rfl⟩
           rw [← hp] at pc
           have HPK := Aside0.mk (show el.f1[k]? = some p from by rw [hp]; exact List.getElem?_eq_getElem hk)
           clear hp
           replace pc := cell_step pc HS.out.bel
           have hp2 : wr.cell? ⟨w.heap.size, 2, none⟩ = some (.int .i64 x.f2) := (blk_cell HS.out.box 2).trans rfl
           have KS := Aside0.mk (Kd.R_reads' HS.out.row).2.2
           have hsl2 : sn.length ≤ 2000000 := by omega
           go_upto_region 13 with (fail)
           have hways := pg_ways x i el k p b HB.out HE.out HPK.out
           rw [← HSN.out] at hways
           have HW2 := Aside0.mk (show IntKind.i64.wrap (x.f2 - 1) = x.f2 - 1 from by rw [i64_w]; unfold wrap64; omega)
           rcases hways with ⟨hbf, hways⟩ | ⟨hPg, eP, eS, hways⟩
           ·have HBF := Aside0.mk hbf
            clear hbf
            rcases hways with eP | ⟨eP, hz0, eS⟩ | ⟨eP, q, hq, h0, hle⟩ | ⟨eP, q, hq, h0, hle, eS⟩
            ·have hw2 := HW2.out
             go_quiet (first | (go_at_call 108; exact inSq _ _ _ _ _) | (go_at_call 91; exact hasSq _ _ _ _ _ _ KS.out hsl2))
             go_wp2
             go_ret
             exact ⟨rb HBF.out, below_step HS.out.bel (drewN_below _ _)⟩
            ·have q1 : decide ((0 : Int) < (k : Int)) = false := decide_eq_false (by omega)
             have q2 : decide (0 < k) = false := decide_eq_false (by omega)
             have hw2 := HW2.out
             clear hz0
             go_quiet (first | (go_at_call 108; exact inSq _ _ _ _ _) | (go_at_call 91; exact hasSq _ _ _ _ _ _ KS.out hsl2))
             go_wp2
             go_ret
             exact ⟨rb HBF.out, below_step HS.out.bel (drewN_below _ _)⟩
            ·have q1 : decide ((0 : Int) < (k : Int)) = true := decide_eq_true (by omega)
             have q2 : decide (0 < k) = true := decide_eq_true (by omega)
             have hs1 : IntKind.i64.wrap ((k : Int) - 1) = ((k - 1 : Nat) : Int) := by rw [i64_w]; unfold wrap64; omega
             have hs2 : (0 : Int) ≤ ((k - 1 : Nat) : Int) := by omega
             have hs3 : ((k - 1 : Nat) : Int) < (el.f1.length : Int) := by omega
             obtain ⟨hql, hqv⟩ := List.getElem?_eq_some_iff.1 hq
             obtain ⟨ap2, hA2, zq⟩ := C_at KE.out hql
             rw [hqv] at zq
             injection hA2 with hA2
             subst hA2
             clear hqv hq
             replace zq := cell_step zq HS.out.bel
             have hw2 := HW2.out
             have q3 : decide (p ≤ q) = true := decide_eq_true hle
             go_quiet (first | (go_at_call 108; exact inSq _ _ _ _ _) | (go_at_call 91; exact hasSq _ _ _ _ _ _ KS.out hsl2))
             go_wp2
             go_ret
             exact ⟨rb HBF.out, below_step HS.out.bel (drewN_below _ _)⟩
            ·have q1 : decide ((0 : Int) < (k : Int)) = true := decide_eq_true (by omega)
             have q2 : decide (0 < k) = true := decide_eq_true (by omega)
             have hs1 : IntKind.i64.wrap ((k : Int) - 1) = ((k - 1 : Nat) : Int) := by rw [i64_w]; unfold wrap64; omega
             have hs2 : (0 : Int) ≤ ((k - 1 : Nat) : Int) := by omega
             have hs3 : ((k - 1 : Nat) : Int) < (el.f1.length : Int) := by omega
             obtain ⟨hql, hqv⟩ := List.getElem?_eq_some_iff.1 hq
             obtain ⟨ap2, hA2, zq⟩ := C_at KE.out hql
             rw [hqv] at zq
             injection hA2 with hA2
             subst hA2
             clear hqv hq
             replace zq := cell_step zq HS.out.bel
             have hw2 := HW2.out
             have q3 : decide (p ≤ q) = false := decide_eq_false hle
             go_quiet (first | (go_at_call 108; exact inSq _ _ _ _ _) | (go_at_call 91; exact hasSq _ _ _ _ _ _ KS.out hsl2))
             go_wp2
             go_ret
             exact ⟨rb HBF.out, below_step HS.out.bel (drewN_below _ _)⟩
           ·have HPG := Aside0.mk hPg
            clear hPg
            rcases hways with hz0 | ⟨q, hq, h0, hle⟩
            ·have q1 : decide ((0 : Int) < (k : Int)) = false := decide_eq_false (by omega)
             have q2 : decide (0 < k) = false := decide_eq_false (by omega)
             have hw2 := HW2.out
             clear hz0
             go_quiet (first | (go_at_call 108; exact inSq _ _ _ _ _) | (go_at_call 91; exact hasSq _ _ _ _ _ _ KS.out hsl2))
             obtain ⟨W3, hW3⟩ : ∃ W3, W3 = wr.drewN nq := ⟨_, rfl⟩
             have HB3 := Aside0.mk (show Below wr.heap.size wr W3 from by rw [hW3]; exact drewN_below _ _)
             rw [← hW3]
             clear hW3 hp2 hf1 hw2
             replace pc := cell_step pc HB3.out
             replace HS := Aside0.mk (HS.out.step HB3.out)
             replace BF := Aside0.mk (blk_below BF.out HB3.out)
             have hf1 : W3.cell? ⟨gF, 1, none⟩ = some (.slice (some ap) el.f1.length c1_) := (blk_cell BF.out 1).trans rfl
             clear HB3
             go_wp2_with ((with_reducible refine gate_builtin (b := .append) (xs := #[.tmp 125, .tmp 131]) rfl ?_); at_builtin; refine seen_app rfl (.tmp 125) (.tmp 131) rfl rfl rfl HS.out BF.out OW.out hsl2 ?_; intro v1 w1 HS1 BF1 OW1)
             go_roundg k2
             case measure => omega
             case rel => exact ⟨k + 1, _, rfl, by go_num, ⟨by have := HQ2.out; omega⟩, ⟨by omega⟩, ⟨fun j p2 hj hf => by
              rcases Nat.lt_or_ge j k with h2 | h2
              ·exact HP2.out j p2 h2 hf
              ·obtain rfl : j = k := by omega
               have := HPK.out.symm.trans hf
               injection this with this
               subst this
               exact HPG.out⟩, ⟨by
               obtain ⟨hkl, hkv⟩ := List.getElem?_eq_some_iff.1 HPK.out
               rw [List.take_succ_eq_append_getElem hkl, hkv, ← List.append_assoc, ← HSN.out]
               exact HS1.out⟩, BF1, OW1⟩
            ·have q1 : decide ((0 : Int) < (k : Int)) = true := decide_eq_true (by omega)
             have q2 : decide (0 < k) = true := decide_eq_true (by omega)
             have hs1 : IntKind.i64.wrap ((k : Int) - 1) = ((k - 1 : Nat) : Int) := by rw [i64_w]; unfold wrap64; omega
             have hs2 : (0 : Int) ≤ ((k - 1 : Nat) : Int) := by omega
             have hs3 : ((k - 1 : Nat) : Int) < (el.f1.length : Int) := by omega
             obtain ⟨hql, hqv⟩ := List.getElem?_eq_some_iff.1 hq
             obtain ⟨ap2, hA2, zq⟩ := C_at KE.out hql
             rw [hqv] at zq
             injection hA2 with hA2
             subst hA2
             clear hqv hq
             replace zq := cell_step zq HS.out.bel
             have hw2 := HW2.out
             have q3 : decide (p ≤ q) = false := decide_eq_false hle
             go_quiet (first | (go_at_call 108; exact inSq _ _ _ _ _) | (go_at_call 91; exact hasSq _ _ _ _ _ _ KS.out hsl2))
             clear zq
             obtain ⟨W3, hW3⟩ : ∃ W3, W3 = wr.drewN nq := ⟨_, rfl⟩
             have HB3 := Aside0.mk (show Below wr.heap.size wr W3 from by rw [hW3]; exact drewN_below _ _)
             rw [← hW3]
             clear hW3 hp2 hf1 hw2
             replace pc := cell_step pc HB3.out
             replace HS := Aside0.mk (HS.out.step HB3.out)
             replace BF := Aside0.mk (blk_below BF.out HB3.out)
             have hf1 : W3.cell? ⟨gF, 1, none⟩ = some (.slice (some ap) el.f1.length c1_) := (blk_cell BF.out 1).trans rfl
             clear HB3
             go_wp2_with ((with_reducible refine gate_builtin (b := .append) (xs := #[.tmp 125, .tmp 131]) rfl ?_); at_builtin; refine seen_app rfl (.tmp 125) (.tmp 131) rfl rfl rfl HS.out BF.out OW.out hsl2 ?_; intro v1 w1 HS1 BF1 OW1)
             go_roundg k2
             case measure => omega
             case rel => exact ⟨k + 1, _, rfl, by go_num, ⟨by have := HQ2.out; omega⟩, ⟨by omega⟩, ⟨fun j p2 hj hf => by
              rcases Nat.lt_or_ge j k with h2 | h2
              ·exact HP2.out j p2 h2 hf
              ·obtain rfl : j = k := by omega
               have := HPK.out.symm.trans hf
               injection this with this
               subst this
               exact HPG.out⟩, ⟨by
               obtain ⟨hkl, hkv⟩ := List.getElem?_eq_some_iff.1 HPK.out
               rw [List.take_succ_eq_append_getElem hkl, hkv, ← List.append_assoc, ← HSN.out]
               exact HS1.out⟩, BF1, OW1⟩
         ·have d1 : decide ((k : Int) < (el.f1.length : Int)) = false := decide_eq_false (by omega)
          have hk2 : k = el.f1.length := by have := HI2.out; omega
          have hsn : sn = seenAt x (i + 1) := by rw [HSN.out, hk2, List.take_length, seen_succ HE.out]
          subst hk2
          obtain ⟨nn, hnn⟩ : ∃ n, n = sn.length := ⟨_, rfl⟩
          go_wp2
          go_roundg k1
          case measure => omega
          case rel => exact ⟨i + 1, _, rfl, by go_num, ⟨by have := HQ.out; omega⟩, ⟨by omega⟩, ⟨fun j f hj hf => by
           rcases Nat.lt_or_ge j i with h2 | h2
           ·exact HP.out j f h2 hf
           ·obtain rfl : j = i := by omega
            have := HE.out.symm.trans hf
            injection this with this
            subst this
            exact ⟨HFR.out, fun k p hp => HP2.out k p (List.getElem?_eq_some_iff.1 hp).1 hp⟩⟩, ⟨by rw [← hsn]; exact HS.out⟩⟩
       ·have q1 : decide ((0 : Int) < (i : Int)) = true := decide_eq_true (by omega)
        have q2 : decide (0 < i) = true := decide_eq_true (by omega)
        have hs1 : IntKind.i64.wrap ((i : Int) - 1) = ((i - 1 : Nat) : Int) := by rw [i64_w]; unfold wrap64; omega
        have hs2 : (0 : Int) ≤ ((i - 1 : Nat) : Int) := by omega
        have hs3 : ((i - 1 : Nat) : Int) < (x.f3.length : Int) := by omega
        obtain ⟨ad2, hA2, zp⟩ := prev_at KR.out hp
        injection hA2 with hA2
        subst hA2
        clear hp
        replace zp := cell_step zp HS.out.bel
        have q3 : decide (el.f0 ≤ p.f0) = false := decide_eq_false hle
        go_quiet ((go_at_call 108; exact inSq _ _ _ _ _))
        simp only [eT, eL]
        clear eT eL
        obtain ⟨W2, hW2⟩ : ∃ W2, W2 = W1.drewN nq := ⟨_, rfl⟩
        have HB2 := Aside0.mk (show Below W1.heap.size W1 W2 from by rw [hW2]; exact drewN_below _ _)
        rw [← hW2]
        clear hW2 hp0 hp3 hf0 hf1
        replace HS := Aside0.mk (HS.out.step HB2.out)
        replace BF := Aside0.mk (blk_below BF.out HB2.out)
        clear HB2
        go_wp2
        go_loopg [3, 6] (el.f1.length + 1) (fun kq v3 v6 w' => ∃ (k : Nat) (v : Value), v3 = v ∧ v6 = .int .i64 (k : Int) ∧ Aside0 (kq + k = el.f1.length + 1) ∧ Aside0 (k ≤ el.f1.length) ∧ Aside0 (∀ (j : Nat) (p : Int), j < k → el.f1[j]? = some p → PgOk x (seenAt x i) el.f1 j p) ∧ Aside0 (SeenAt w w' [.int .i64 x.f0, .int .i64 x.f1, .int .i64 x.f2, .slice (some ad) x.f3.length cF] (seenAt x i ++ el.f1.take k) v) ∧ Aside0 (w'.heap[gF]? = some (.cells ([.int .i64 el.f0, .slice A1 el.f1.length c1_] : List Value).toArray 122 (0, 0))) ∧ Aside0 (∀ q, v.ownBlock = some q → q ≠ gF))
        case atStart => exact ⟨0, _, rfl, rfl, ⟨by omega⟩, ⟨Nat.zero_le _⟩, ⟨fun j p h => absurd h (Nat.not_lt_zero _)⟩, ⟨by rw [List.take_zero, List.append_nil]; exact HS.out⟩, BF, ⟨fun q hq => Nat.ne_of_lt (OW.out q hq)⟩⟩
        case round =>
         clear HS BF OW
         obtain ⟨k, v, rfl, rfl, HQ2, HI2, HP2, HS, BF, OW⟩ := hrel
         have hf1 : wr.cell? ⟨gF, 1, none⟩ = some (.slice A1 el.f1.length c1_) := (blk_cell BF.out 1).trans rfl
         obtain ⟨sn, hsn⟩ : ∃ sn, sn = seenAt x i ++ el.f1.take k := ⟨_, rfl⟩
         have hsl : sn.length ≤ 2000 := by
          have h1 := seen_len2 (fun j f hj hf => (HP.out j f hj hf).1.2.2.2) i (Nat.le_refl _) HI.out
          have h2 := List.length_take_le k el.f1
          have h3 := HI.out
          have h4 := HI2.out
          rw [hsn, List.length_append]
          omega
         rw [← hsn] at HS
         have HSN := Aside0.mk hsn
         clear hsn
         obtain ⟨Av, cv, rfl⟩ := Kd.R_slice HS.out.row
         by_cases hk : k < el.f1.length
         ·have d1 : decide ((k : Int) < (el.f1.length : Int)) = true := decide_eq_true (by omega)
          have d0 : decide ((0 : Int) ≤ (k : Int)) = true := decide_eq_true (by omega)
          have d2 : ((k : Int) < (el.f1.length : Int)) = True := eq_true (by omega)
          have d3 : ((0 : Int) ≤ (k : Int)) = True := eq_true (by omega)
          cases gk with
          | zero => exact absurd HQ2.out (by omega)
          | succ k2 =>
           obtain ⟨ap, hAp, pc⟩ := C_at KE.out hk
           subst hAp
           obtain ⟨p, hp⟩ : ∃ p, p = el.f1[k] := ⟨_, rfl⟩
           rw [← hp] at pc
           have HPK := Aside0.mk (show el.f1[k]? = some p from by rw [hp]; exact List.getElem?_eq_getElem hk)
           clear hp
           replace pc := cell_step pc HS.out.bel
           have hp2 : wr.cell? ⟨w.heap.size, 2, none⟩ = some (.int .i64 x.f2) := (blk_cell HS.out.box 2).trans rfl
           have KS := Aside0.mk (Kd.R_reads' HS.out.row).2.2
           have hsl2 : sn.length ≤ 2000000 := by omega
           go_upto_region 13 with (fail)
           have hways := pg_ways x i el k p b HB.out HE.out HPK.out
           rw [← HSN.out] at hways
           have HW2 := Aside0.mk (show IntKind.i64.wrap (x.f2 - 1) = x.f2 - 1 from by rw [i64_w]; unfold wrap64; omega)
           rcases hways with ⟨hbf, hways⟩ | ⟨hPg, eP, eS, hways⟩
           ·have HBF := Aside0.mk hbf
            clear hbf
            rcases hways with eP | ⟨eP, hz0, eS⟩ | ⟨eP, q, hq, h0, hle⟩ | ⟨eP, q, hq, h0, hle, eS⟩
            ·have hw2 := HW2.out
             go_quiet (first | (go_at_call 108; exact inSq _ _ _ _ _) | (go_at_call 91; exact hasSq _ _ _ _ _ _ KS.out hsl2))
             go_wp2
             go_ret
             exact ⟨rb HBF.out, below_step HS.out.bel (drewN_below _ _)⟩
            ·have q1 : decide ((0 : Int) < (k : Int)) = false := decide_eq_false (by omega)
             have q2 : decide (0 < k) = false := decide_eq_false (by omega)
             have hw2 := HW2.out
             clear hz0
             go_quiet (first | (go_at_call 108; exact inSq _ _ _ _ _) | (go_at_call 91; exact hasSq _ _ _ _ _ _ KS.out hsl2))
             go_wp2
             go_ret
             exact ⟨rb HBF.out, below_step HS.out.bel (drewN_below _ _)⟩
            ·have q1 : decide ((0 : Int) < (k : Int)) = true := decide_eq_true (by omega)
             have q2 : decide (0 < k) = true := decide_eq_true (by omega)
             have hs1 : IntKind.i64.wrap ((k : Int) - 1) = ((k - 1 : Nat) : Int) := by rw [i64_w]; unfold wrap64; omega
             have hs2 : (0 : Int) ≤ ((k - 1 : Nat) : Int) := by omega
             have hs3 : ((k - 1 : Nat) : Int) < (el.f1.length : Int) := by omega
             obtain ⟨hql, hqv⟩ := List.getElem?_eq_some_iff.1 hq
             obtain ⟨ap2, hA2, zq⟩ := C_at KE.out hql
             rw [hqv] at zq
             injection hA2 with hA2
             subst hA2
             clear hqv hq
             replace zq := cell_step zq HS.out.bel
             have hw2 := HW2.out
             have q3 : decide (p ≤ q) = true := decide_eq_true hle
             go_quiet (first | (go_at_call 108; exact inSq _ _ _ _ _) | (go_at_call 91; exact hasSq _ _ _ _ _ _ KS.out hsl2))
             go_wp2
             go_ret
             exact ⟨rb HBF.out, below_step HS.out.bel (drewN_below _ _)⟩
            ·have q1 : decide ((0 : Int) < (k : Int)) = true := decide_eq_true (by omega)
             have q2 : decide (0 < k) = true := decide_eq_true (by omega)
             have hs1 : IntKind.i64.wrap ((k : Int) - 1) = ((k - 1 : Nat) : Int) := by rw [i64_w]; unfold wrap64; omega
             have hs2 : (0 : Int) ≤ ((k - 1 : Nat) : Int) := by omega
             have hs3 : ((k - 1 : Nat) : Int) < (el.f1.length : Int) := by omega
             obtain ⟨hql, hqv⟩ := List.getElem?_eq_some_iff.1 hq
             obtain ⟨ap2, hA2, zq⟩ := C_at KE.out hql
             rw [hqv] at zq
             injection hA2 with hA2
             subst hA2
             clear hqv hq
             replace zq := cell_step zq HS.out.bel
             have hw2 := HW2.out
             have q3 : decide (p ≤ q) = false := decide_eq_false hle
             go_quiet (first | (go_at_call 108; exact inSq _ _ _ _ _) | (go_at_call 91; exact hasSq _ _ _ _ _ _ KS.out hsl2))
             go_wp2
             go_ret
             exact ⟨rb HBF.out, below_step HS.out.bel (drewN_below _ _)⟩
           ·have HPG := Aside0.mk hPg
            clear hPg
            rcases hways with hz0 | ⟨q, hq, h0, hle⟩
            ·have q1 : decide ((0 : Int) < (k : Int)) = false := decide_eq_false (by omega)
             have q2 : decide (0 < k) = false := decide_eq_false (by omega)
             have hw2 := HW2.out
             clear hz0
             go_quiet (first | (go_at_call 108; exact inSq _ _ _ _ _) | (go_at_call 91; exact hasSq _ _ _ _ _ _ KS.out hsl2))
             obtain ⟨W3, hW3⟩ : ∃ W3, W3 = wr.drewN nq := ⟨_, rfl⟩
             have HB3 := Aside0.mk (show Below wr.heap.size wr W3 from by rw [hW3]; exact drewN_below _ _)
             rw [← hW3]
             clear hW3 hp2 hf1 hw2
             replace pc := cell_step pc HB3.out
             replace HS := Aside0.mk (HS.out.step HB3.out)
             replace BF := Aside0.mk (blk_below BF.out HB3.out)
             have hf1 : W3.cell? ⟨gF, 1, none⟩ = some (.slice (some ap) el.f1.length c1_) := (blk_cell BF.out 1).trans rfl
             clear HB3
             go_wp2_with ((with_reducible refine gate_builtin (b := .append) (xs := #[.tmp 125, .tmp 131]) rfl ?_); at_builtin; refine seen_app rfl (.tmp 125) (.tmp 131) rfl rfl rfl HS.out BF.out OW.out hsl2 ?_; intro v1 w1 HS1 BF1 OW1)
             go_roundg k2
             case measure => omega
             case rel => exact ⟨k + 1, _, rfl, by go_num, ⟨by have := HQ2.out; omega⟩, ⟨by omega⟩, ⟨fun j p2 hj hf => by
              rcases Nat.lt_or_ge j k with h2 | h2
              ·exact HP2.out j p2 h2 hf
              ·obtain rfl : j = k := by omega
               have := HPK.out.symm.trans hf
               injection this with this
               subst this
               exact HPG.out⟩, ⟨by
               obtain ⟨hkl, hkv⟩ := List.getElem?_eq_some_iff.1 HPK.out
               rw [List.take_succ_eq_append_getElem hkl, hkv, ← List.append_assoc, ← HSN.out]
               exact HS1.out⟩, BF1, OW1⟩
            ·have q1 : decide ((0 : Int) < (k : Int)) = true := decide_eq_true (by omega)
             have q2 : decide (0 < k) = true := decide_eq_true (by omega)
             have hs1 : IntKind.i64.wrap ((k : Int) - 1) = ((k - 1 : Nat) : Int) := by rw [i64_w]; unfold wrap64; omega
             have hs2 : (0 : Int) ≤ ((k - 1 : Nat) : Int) := by omega
             have hs3 : ((k - 1 : Nat) : Int) < (el.f1.length : Int) := by omega
             obtain ⟨hql, hqv⟩ := List.getElem?_eq_some_iff.1 hq
             obtain ⟨ap2, hA2, zq⟩ := C_at KE.out hql
             rw [hqv] at zq
             injection hA2 with hA2
             subst hA2
             clear hqv hq
             replace zq := cell_step zq HS.out.bel
             have hw2 := HW2.out
             have q3 : decide (p ≤ q) = false := decide_eq_false hle
             go_quiet (first | (go_at_call 108; exact inSq _ _ _ _ _) | (go_at_call 91; exact hasSq _ _ _ _ _ _ KS.out hsl2))
             clear zq
             obtain ⟨W3, hW3⟩ : ∃ W3, W3 = wr.drewN nq := ⟨_, rfl⟩
             have HB3 := Aside0.mk (show Below wr.heap.size wr W3 from by rw [hW3]; exact drewN_below _ _)
             rw [← hW3]
             clear hW3 hp2 hf1 hw2
             replace pc := cell_step pc HB3.out
             replace HS := Aside0.mk (HS.out.step HB3.out)
             replace BF := Aside0.mk (blk_below BF.out HB3.out)
             have hf1 : W3.cell? ⟨gF, 1, none⟩ = some (.slice (some ap) el.f1.length c1_) := (blk_cell BF.out 1).trans rfl
             clear HB3
             go_wp2_with ((with_reducible refine gate_builtin (b := .append) (xs := #[.tmp 125, .tmp 131]) rfl ?_); at_builtin; refine seen_app rfl (.tmp 125) (.tmp 131) rfl rfl rfl HS.out BF.out OW.out hsl2 ?_; intro v1 w1 HS1 BF1 OW1)
             go_roundg k2
             case measure => omega
             case rel => exact ⟨k + 1, _, rfl, by go_num, ⟨by have := HQ2.out; omega⟩, ⟨by omega⟩, ⟨fun j p2 hj hf => by
              rcases Nat.lt_or_ge j k with h2 | h2
              ·exact HP2.out j p2 h2 hf
              ·obtain rfl : j = k := by omega
               have := HPK.out.symm.trans hf
               injection this with this
               subst this
               exact HPG.out⟩, ⟨by
               obtain ⟨hkl, hkv⟩ := List.getElem?_eq_some_iff.1 HPK.out
               rw [List.take_succ_eq_append_getElem hkl, hkv, ← List.append_assoc, ← HSN.out]
               exact HS1.out⟩, BF1, OW1⟩
         ·have d1 : decide ((k : Int) < (el.f1.length : Int)) = false := decide_eq_false (by omega)
          have hk2 : k = el.f1.length := by have := HI2.out; omega
          have hsn : sn = seenAt x (i + 1) := by rw [HSN.out, hk2, List.take_length, seen_succ HE.out]
          subst hk2
          obtain ⟨nn, hnn⟩ : ∃ n, n = sn.length := ⟨_, rfl⟩
          go_wp2
          go_roundg k1
          case measure => omega
          case rel => exact ⟨i + 1, _, rfl, by go_num, ⟨by have := HQ.out; omega⟩, ⟨by omega⟩, ⟨fun j f hj hf => by
           rcases Nat.lt_or_ge j i with h2 | h2
           ·exact HP.out j f h2 hf
           ·obtain rfl : j = i := by omega
            have := HE.out.symm.trans hf
            injection this with this
            subst this
            exact ⟨HFR.out, fun k p hp => HP2.out k p (List.getElem?_eq_some_iff.1 hp).1 hp⟩⟩, ⟨by rw [← hsn]; exact HS.out⟩⟩
    ·have c1 : decide ((i : Int) < (x.f3.length : Int)) = false := decide_eq_false (by omega)
     have hbt : true = b := (HB.out.2 ⟨HH.out, fun j f hj => HP.out j f (by have := (List.getElem?_eq_some_iff.1 hj).1; have := HI.out; omega) hj⟩).symm
     have HBT := Aside0.mk hbt
     clear hbt
     go_wp2
     go_ret
     exact ⟨rb HBT.out, HS.out.bel⟩
 ·have HBF := Aside0.mk (bfalse HB.out (fun h => hh h.1))
  rcases mh_ways x hh with e0 | ⟨e0, e2⟩ | ⟨⟨e0, e2, h2a, h2b⟩, ⟨e1, e1', e1''⟩ | ⟨⟨e1, e1'⟩, bl⟩ | ⟨⟨e1, e1', e1''⟩, bl⟩⟩
  all_goals
   clear hh
   go_enter Try.func138, Try.ntmps138
   go_wp2_with (((with_reducible refine (inS _ _ _ _).mono ?_); rintro e w1 ⟨rfl, rfl⟩))
   go_ret
   exact ⟨rb HBF.out, hbl.out⟩
def FreeOk (f : S122) (x : S53) : Prop := (∀ k p, f.f1[k]? = some p → (2 ≤ p ∧ p ≤ x.f2 - 1) ∧ ∀ q : Int, 0 < k → f.f1[k - 1]? = some q → q < p) ∧ (1 ≤ f.f0 ∧ f.f0 ≤ x.f0) ∧ (1 ≤ f.f1.length ∧ f.f1.length ≤ 40)
theorem fp_ways (f : S122) (x : S53) (k : Nat) (p : Int) (b : Bool) (hb : b = true ↔ FreeOk f x) (hk : f.f1[k]? = some p) :
  (false = b ∧ (p < 2 ∨ (¬ p < 2 ∧ x.f2 ≤ p) ∨ (¬ p < 2 ∧ ¬ x.f2 ≤ p ∧ ∃ q, f.f1[k - 1]? = some q ∧ 0 < k ∧ p ≤ q))) ∨
  (((2 ≤ p ∧ p ≤ x.f2 - 1) ∧ ∀ q : Int, 0 < k → f.f1[k - 1]? = some q → q < p) ∧ ¬ p < 2 ∧ ¬ x.f2 ≤ p ∧ (k = 0 ∨ ∃ q, f.f1[k - 1]? = some q ∧ 0 < k ∧ ¬ p ≤ q)) := by
 have hklt := (List.getElem?_eq_some_iff.1 hk).1
 have nb : ¬ ((2 ≤ p ∧ p ≤ x.f2 - 1) ∧ ∀ q : Int, 0 < k → f.f1[k - 1]? = some q → q < p) → false = b := fun h => bfalse hb (fun hm => h (hm.1 k p hk))
 by_cases h1 : p < 2
 ·exact .inl ⟨nb (fun h => by have := h.1; omega), .inl h1⟩
 by_cases h2 : x.f2 ≤ p
 ·exact .inl ⟨nb (fun h => by have := h.1; omega), .inr (.inl ⟨h1, h2⟩)⟩
 by_cases hz : k = 0
 ·exact .inr ⟨⟨by omega, fun q h0 _ => absurd h0 (by omega)⟩, h1, h2, .inl hz⟩
 have hp : f.f1[k - 1]? = some (f.f1[k - 1]'(by omega)) := List.getElem?_eq_getElem (by omega)
 by_cases h3 : p ≤ f.f1[k - 1]'(by omega)
 ·exact .inl ⟨nb (fun h => by have := h.2 _ (by omega) hp; omega), .inr (.inr ⟨h1, h2, _, hp, by omega, h3⟩)⟩
 ·exact .inr ⟨⟨by omega, fun g _ hg => by rw [hp] at hg; injection hg with hg; subst hg; omega⟩, h1, h2, .inr ⟨_, hp, by omega, h3⟩⟩
theorem freeOk_c (f : S122) (x : S53) (b : Bool) {A1 AF : Option Addr} {c1_ cF : Nat} (w : World) (h : Kd.C (Kd.int .i64) w A1 f.f1.length f.f1) (hb : b = true ↔ FreeOk f x) :
  Calls Try.prog 171 #[.agg #[.int .i64 f.f0, .slice A1 f.f1.length c1_], .agg #[.int .i64 x.f0, .int .i64 x.f1, .int .i64 x.f2, .slice AF x.f3.length cF]] w fun e w' => e = .returned (.bool b) ∧ Below w.heap.size w w' := by
 have KE := Aside0.mk h
 have HB := Aside0.mk hb
 have bn := h.2.1
 have B0 := Aside0.mk (blk_alloc (blk_new w (.cells ([.int .i64 f.f0, .slice A1 f.f1.length c1_] : List Value).toArray 122)) (.cells ([.int .i64 x.f0, .int .i64 x.f1, .int .i64 x.f2, .slice AF x.f3.length cF] : List Value).toArray 53))
 have B1 := Aside0.mk (blk_new (w.alloc (.cells ([.int .i64 f.f0, .slice A1 f.f1.length c1_] : List Value).toArray 122)) (.cells ([.int .i64 x.f0, .int .i64 x.f1, .int .i64 x.f2, .slice AF x.f3.length cF] : List Value).toArray 53))
 have hbl := Aside0.mk (below_alloc (below_alloc (Below.refl w.heap.size w) (.cells ([.int .i64 f.f0, .slice A1 f.f1.length c1_] : List Value).toArray 122)) (.cells ([.int .i64 x.f0, .int .i64 x.f1, .int .i64 x.f2, .slice AF x.f3.length cF] : List Value).toArray 53))
 clear h hb
 go_enter Try.func171, Try.ntmps171
 go_upto_region 1 with (fail)
 obtain ⟨W, hW⟩ : ∃ W, W = (w.alloc (.cells #[.int .i64 f.f0, .slice A1 f.f1.length c1_] 122)).alloc (.cells #[.int .i64 x.f0, .int .i64 x.f1, .int .i64 x.f2, .slice AF x.f3.length cF] 53) := ⟨_, rfl⟩
 rw [← hW]
 have hgs : (w.alloc (.cells ([.int .i64 f.f0, .slice A1 f.f1.length c1_] : List Value).toArray 122)).heap.size = w.heap.size + 1 := by simp
 rw [hgs] at B1
 have hbW : Below w.heap.size w W := by rw [hW]; exact hbl.out
 have f0 : W.cell? ⟨w.heap.size, 0, none⟩ = some (.int .i64 f.f0) := by rw [hW]; exact (blk_cell B0.out 0).trans rfl
 have f1 : W.cell? ⟨w.heap.size, 1, none⟩ = some (.slice A1 f.f1.length c1_) := by rw [hW]; exact (blk_cell B0.out 1).trans rfl
 have m0 : W.cell? ⟨w.heap.size + 1, 0, none⟩ = some (.int .i64 x.f0) := by rw [hW]; exact (blk_cell B1.out 0).trans rfl
 have m2 : W.cell? ⟨w.heap.size + 1, 2, none⟩ = some (.int .i64 x.f2) := by rw [hW]; exact (blk_cell B1.out 2).trans rfl
 have HW := Aside0.mk hbW
 clear hW B0 B1 hbl hgs hbW
 go_wp2_with fail
 go_loop [10] (fun v10 => ∃ k : Nat, v10 = .int .i64 (k : Int) ∧ k ≤ f.f1.length ∧ Aside0 (∀ (j : Nat) (p : Int), j < k → f.f1[j]? = some p → (2 ≤ p ∧ p ≤ x.f2 - 1) ∧ ∀ q : Int, 0 < j → f.f1[j - 1]? = some q → q < p)) (fun v10 => f.f1.length - (intOf v10).toNat)
 case atStart => exact ⟨0, rfl, Nat.zero_le _, ⟨fun j p h => absurd h (Nat.not_lt_zero _)⟩⟩
 case round =>
  obtain ⟨k, rfl, hk0, HP⟩ := hrel
  by_cases hk : k < f.f1.length
  ·have d1 : decide ((k : Int) < (f.f1.length : Int)) = true := decide_eq_true (by omega)
   have d0 : decide ((0 : Int) ≤ (k : Int)) = true := decide_eq_true (by omega)
   have d2 : ((k : Int) < (f.f1.length : Int)) = True := eq_true (by omega)
   have d3 : ((0 : Int) ≤ (k : Int)) = True := eq_true (by omega)
   obtain ⟨ap, hAp, pc⟩ := C_at KE.out hk
   subst hAp
   obtain ⟨p, hp⟩ : ∃ p, p = f.f1[k] := ⟨_, rfl⟩
   rw [← hp] at pc
   have HPK := Aside0.mk (show f.f1[k]? = some p from by rw [hp]; exact List.getElem?_eq_getElem hk)
   clear hp
   replace pc := cell_step pc HW.out
   have hw := fp_ways f x k p b HB.out HPK.out
   rcases hw with ⟨hbf, hw⟩ | ⟨hg, h1, h2, hw⟩
   ·have HBF := Aside0.mk hbf
    clear hbf
    rcases hw with h1 | ⟨h1, h2⟩ | ⟨h1, h2, q, hq, h0, hle⟩
    ·have e1 : decide (p < 2) = true := decide_eq_true h1
     go_wp2
     go_ret
     exact ⟨rb HBF.out, HW.out⟩
    ·have e1 : decide (p < 2) = false := decide_eq_false h1
     have e2 : decide (x.f2 ≤ p) = true := decide_eq_true h2
     go_wp2
     go_ret
     exact ⟨rb HBF.out, HW.out⟩
    ·have e1 : decide (p < 2) = false := decide_eq_false h1
     have e2 : decide (x.f2 ≤ p) = false := decide_eq_false h2
     have q1 : decide ((0 : Int) < (k : Int)) = true := decide_eq_true (by omega)
     have q2 : decide (0 < k) = true := decide_eq_true (by omega)
     have hs2 : (0 : Int) ≤ ((k - 1 : Nat) : Int) := by omega
     have hs3 : ((k - 1 : Nat) : Int) < (f.f1.length : Int) := by omega
     have hs4 : (k : Int) - 1 = ((k - 1 : Nat) : Int) := by omega
     obtain ⟨hql, hqv⟩ := List.getElem?_eq_some_iff.1 hq
     obtain ⟨ap2, hA2, zq⟩ := C_at KE.out hql
     rw [hqv] at zq
     injection hA2 with hA2
     subst hA2
     clear hqv hq
     replace zq := cell_step zq HW.out
     have q3 : decide (p ≤ q) = true := decide_eq_true hle
     go_wp2
     go_ret
     exact ⟨rb HBF.out, HW.out⟩
   ·have HG := Aside0.mk hg
    have e1 : decide (p < 2) = false := decide_eq_false h1
    have e2 : decide (x.f2 ≤ p) = false := decide_eq_false h2
    clear hg
    rcases hw with hz0 | ⟨q, hq, h0, hle⟩
    ·have q1 : decide ((0 : Int) < (k : Int)) = false := decide_eq_false (by omega)
     have q2 : decide (0 < k) = false := decide_eq_false (by omega)
     clear hz0
     go_wp2
     go_round
     case rel => exact ⟨k + 1, by go_num, by omega, ⟨fun j p2 hj hf => by
      rcases Nat.lt_or_ge j k with h2 | h2
      ·exact HP.out j p2 h2 hf
      ·obtain rfl : j = k := by omega
       have := HPK.out.symm.trans hf
       injection this with this
       subst this
       exact HG.out⟩⟩
     case measure => simp [intOf]; omega
    ·have q1 : decide ((0 : Int) < (k : Int)) = true := decide_eq_true (by omega)
     have q2 : decide (0 < k) = true := decide_eq_true (by omega)
     have hs2 : (0 : Int) ≤ ((k - 1 : Nat) : Int) := by omega
     have hs3 : ((k - 1 : Nat) : Int) < (f.f1.length : Int) := by omega
     have hs4 : (k : Int) - 1 = ((k - 1 : Nat) : Int) := by omega
     obtain ⟨hql, hqv⟩ := List.getElem?_eq_some_iff.1 hq
     obtain ⟨ap2, hA2, zq⟩ := C_at KE.out hql
     rw [hqv] at zq
     injection hA2 with hA2
     subst hA2
     clear hqv hq
     replace zq := cell_step zq HW.out
     have q3 : decide (p ≤ q) = false := decide_eq_false hle
     clear hle
     go_wp2
     go_round
     case rel => exact ⟨k + 1, by go_num, by omega, ⟨fun j p2 hj hf => by
      rcases Nat.lt_or_ge j k with h2 | h2
      ·exact HP.out j p2 h2 hf
      ·obtain rfl : j = k := by omega
       have := HPK.out.symm.trans hf
       injection this with this
       subst this
       exact HG.out⟩⟩
     case measure => simp [intOf]; omega
  ·have d1 : decide ((k : Int) < (f.f1.length : Int)) = false := decide_eq_false (by omega)
   have hk2 : k = f.f1.length := by omega
   have hall : ∀ (j : Nat) (p : Int), f.f1[j]? = some p → (2 ≤ p ∧ p ≤ x.f2 - 1) ∧ ∀ q : Int, 0 < j → f.f1[j - 1]? = some q → q < p := fun j p hj => HP.out j p (by have := (List.getElem?_eq_some_iff.1 hj).1; omega) hj
   have hw : (inB f.f0 1 x.f0 = false ∧ false = b) ∨ (inB f.f0 1 x.f0 = true ∧ inB (f.f1.length : Int) 1 40 = b) := by
    by_cases h1 : 1 ≤ f.f0 ∧ f.f0 ≤ x.f0
    ·by_cases h2 : 1 ≤ (f.f1.length : Int) ∧ (f.f1.length : Int) ≤ 40
     ·exact .inr ⟨inB_t h1, by rw [inB_t h2]; exact (HB.out.2 ⟨hall, h1, by omega⟩).symm⟩
     ·exact .inr ⟨inB_t h1, by rw [inB_f h2]; exact bfalse HB.out (fun h => h2 (by have := h.2.2; omega))⟩
    ·exact .inl ⟨inB_f h1, bfalse HB.out (fun h => h1 h.2.1)⟩
   clear hall hk2
   rcases hw with ⟨e1, hw⟩ | ⟨e1, hw⟩
   all_goals
    have HX := Aside0.mk hw
    clear hw
    go_wp2_with (((with_reducible refine (inI _ _ _ _).mono ?_); rintro e w1 ⟨rfl, rfl⟩))
    go_ret
    exact ⟨rb HX.out, HW.out⟩
def IdxP (xs : List Int) (x : Int) (w : World) (e : Ending) (w' : World) : Prop := ∃ r : Int, e = .returned (.int .i64 r) ∧ w = w' ∧ decide (0 ≤ r) = hasB xs x
theorem idxI (xs : List Int) (x : Int) (A : Option Addr) (c : Nat) (w : World) (h : Kd.C (Kd.int .i64) w A xs.length xs) (hl : xs.length ≤ 2000000) : Calls Try.prog 141 #[.slice A xs.length c, .int .i64 x] w (IdxP xs x w) := by
 have H := Aside0.mk h
 clear h
 go_enter Try.func141, Try.ntmps141
 go_wp2
 go_loop [8] (fun v5 => ∃ i : Nat, v5 = .int .i64 (i : Int) ∧ i ≤ xs.length ∧ Aside0 (x ∉ xs.take i)) (fun v5 => xs.length - (intOf v5).toNat)
 case atStart => exact ⟨0, rfl, Nat.zero_le _, ⟨by simp⟩⟩
 case round =>
  obtain ⟨i, rfl, hi, HN⟩ := hrel
  by_cases hlt : i < xs.length
  ·obtain ⟨ad, hA, hc⟩ := C_at H.out hlt
   subst hA
   have c3 : ((0 : Int) ≤ (i : Int)) = True := eq_true (by omega)
   have c2 : ((i : Int) < (xs.length : Int)) = True := eq_true (by omega)
   obtain ⟨y, hy⟩ : ∃ y, y = xs[i] := ⟨_, rfl⟩
   rw [← hy] at hc
   have HY := Aside0.mk hy
   clear hy
   by_cases e : x = y
   ·have HE := Aside0.mk e
    have e1 : (x == y) = true := beq_iff_eq.2 e
    clear e
    go_wp2
    go_ret
    exact ⟨i, rfl, rfl, by rw [show hasB xs x = true from decide_eq_true (by rw [HE.out, HY.out]; exact List.getElem_mem hlt)]; exact decide_eq_true (by omega)⟩
   ·have e1 : (x == y) = false := beq_eq_false_iff_ne.2 e
    have HE := Aside0.mk e
    clear e
    go_wp2
    go_round
    case rel => exact ⟨i + 1, by go_num, by omega, ⟨by
     rw [List.take_succ_eq_append_getElem hlt, ← HY.out]
     simp only [List.mem_append, List.mem_singleton, not_or]
     exact ⟨HN.out, fun h => HE.out h⟩⟩⟩
    case measure => simp [intOf]; omega
  ·have HI := Aside0.mk (show i = xs.length by omega)
   go_wp2
   go_ret
   exact ⟨-1, rfl, rfl, by rw [show hasB xs x = false from decide_eq_false (by have := HN.out; rwa [HI.out, List.take_length] at this)]; rfl⟩
theorem hasI (xs : List Int) (x : Int) (A : Option Addr) (c : Nat) (w : World) (h : Kd.C (Kd.int .i64) w A xs.length xs) (hl : xs.length ≤ 2000000) : Calls Try.prog 97 #[.slice A xs.length c, .int .i64 x] w fun e w' => e = .returned (.bool (hasB xs x)) ∧ w = w' := by
 have H := Aside0.mk h
 clear h
 go_enter Try.func97, Try.ntmps97
 go_wp2_with ((with_reducible refine (idxI xs x A c _ H.out hl).mono ?_); rintro e w1 ⟨r, rfl, rfl, hr⟩; have HR := Aside0.mk hr; clear hr)
 go_ret
 exact ⟨rb HR.out, rfl⟩
def implMetaOk.T7 : Bool × List (List Nat × List Nat) := (true, [([], []), ([], []), ([0, 1], [0, 1]), ([2], [2]), ([3, 2], [3]), ([4], [4]), ([5, 4], [4, 5]), ([6, 4, 4], [4, 6]), ([7], [7]), ([8, 7], [7, 8]), ([7], [7]), ([10, 7], [7, 10]), ([9, 11, 7], [7, 9, 11]), ([12, 7], [7, 12]), ([13, 7], [7, 13]), ([7], [7]), ([15, 7], [7, 15]), ([14, 16, 7], [7, 14, 16]), ([7, 17, 4], [4, 7, 17]), ([4, 18], [4, 18])])
def implMetaOk.B7 : List Nat := [0, 0, 3, 7, 15, 31, 63, 127, 255, 511, 255, 1279, 4095, 8191, 16383, 255, 33023, 131071, 262143, 524287]
theorem implMetaOk.ok7_0 : regB (opsOf Try.f144 7) implMetaOk.T7 implMetaOk.B7 [] [.t 0, .t 1, .e 2, .p 3, .p 4, .p 5, .p 6, .p 7, .p 8, .p 9, .p 10, .p 11, .p 12, .p 13, .p 14, .p 15, .p 16, .p 17, .p 18, .p 19] = true := by kernel_rfl
theorem implMetaOk.ok7_1 : regB (opsOf Try.f144 7) implMetaOk.T7 implMetaOk.B7 [] [.t 0, .t 1, .e 2, .p 3, .p 4, .p 5, .p 6, .p 7, .p 8, .t 9, .p 10, .p 11, .p 12, .p 13, .t 14, .p 15, .t 16, .p 17, .p 18, .p 19] = true := by kernel_rfl
theorem fi_ways (x : S53) (i : Nat) (f : S122) (b : Bool) (hb : b = true ↔ MOk x) (hi : x.f3[i]? = some f) : ∃ fb : Bool, (fb = true ↔ FreeOk f x) ∧
  ((false = b ∧ (fb = false ∨ (fb = true ∧ ∃ p, x.f3[i - 1]? = some p ∧ 0 < i ∧ f.f0 ≤ p.f0))) ∨ (FrHead x i f ∧ FreeOk f x ∧ fb = true ∧ (i = 0 ∨ ∃ p, x.f3[i - 1]? = some p ∧ 0 < i ∧ ¬ f.f0 ≤ p.f0))) := by
 have hilt := (List.getElem?_eq_some_iff.1 hi).1
 by_cases hf : FreeOk f x
 ·refine ⟨true, by simp [hf], ?_⟩
  have nb : ¬ FrHead x i f → false = b := fun h => bfalse hb (fun hm => h (hm.2 i f hi).1)
  by_cases hz : i = 0
  ·exact .inr ⟨⟨hf.2.1, fun g h0 _ => absurd h0 (by omega), hf.2.2⟩, hf, rfl, .inl hz⟩
  ·have hp : x.f3[i - 1]? = some (x.f3[i - 1]'(by omega)) := List.getElem?_eq_getElem (by omega)
   by_cases h2 : f.f0 ≤ (x.f3[i - 1]'(by omega)).f0
   ·exact .inl ⟨nb (fun h => by have := h.2.1 _ (by omega) hp; omega), .inr ⟨rfl, _, hp, by omega, h2⟩⟩
   ·exact .inr ⟨⟨hf.2.1, fun g _ hg => by rw [hp] at hg; injection hg with hg; subst hg; omega, hf.2.2⟩, hf, rfl, .inr ⟨_, hp, by omega, h2⟩⟩
 ·refine ⟨false, by simp [hf], .inl ⟨bfalse hb (fun hm => hf ?_), .inl rfl⟩⟩
  obtain ⟨h1, h2⟩ := hm.2 i f hi
  exact ⟨fun k p hk => ⟨(h2 k p hk).1, (h2 k p hk).2.1⟩, h1.1, h1.2.2⟩
theorem implMetaOk_c (x : S53) (b : Bool) {cs : List Value} (w : World) (h : k53.K w x cs) (hb : b = true ↔ MOk x) :
  Calls Try.prog 144 #[.agg cs.toArray] w fun e w' => e = .returned (.bool b) ∧ Below w.heap.size w w' := by
 obtain ⟨AF, cF, rfl, mF, rF⟩ := k53_open h
 have KR := Aside0.mk rF
 have HB := Aside0.mk hb
 have bn := rF.2.1
 have hbl := Aside0.mk (below_alloc (Below.refl w.heap.size w) (.cells #[.int .i64 x.f0, .int .i64 x.f1, .int .i64 x.f2, .slice AF x.f3.length cF] 53))
 have BA0 := Aside0.mk (blk_new w (.cells #[.int .i64 x.f0, .int .i64 x.f1, .int .i64 x.f2, .slice AF x.f3.length cF] 53))
 clear h mF rF hb
 by_cases hh : MHead x
 ·obtain ⟨h0, h2, h1, hl⟩ := hh
  have HH := Aside0.mk (show MHead x from ⟨h0, h2, h1, hl⟩)
  have e0 := inB_t h0
  have e2 := inB_t h2
  have bl : (20 < (x.f3.length : Int)) = False := eq_false (by omega)
  obtain ⟨h2a, h2b⟩ := h2
  clear h0
  have hv : ((x.f1 != 0) = false ∧ (x.f1 == 0) = true) ∨ ((x.f1 != 0) = true ∧ (x.f1 == 0) = false ∧ inB x.f1 2 (x.f2 - 1) = true) := by
   rcases h1 with h1 | h1
   ·exact .inl (by simp [h1])
   ·exact .inr ⟨by simp; omega, by simp; omega, inB_t h1⟩
  clear h1
  rcases hv with ⟨e1, e1'⟩ | ⟨e1, e1', e1''⟩
  all_goals
   go_enter Try.func144, Try.ntmps144
   go_wp2_with (((with_reducible refine (inI _ _ _ _).mono ?_); rintro e w1 ⟨rfl, rfl⟩))
   have H0 := Aside0.mk (seen0 x [.int .i64 x.f0, .int .i64 x.f1, .int .i64 x.f2, .slice AF x.f3.length cF] w)
   go_loopg [3, 44] (x.f3.length + 1) (fun kq v3 v4 w' => ∃ (i : Nat) (v : Value), v3 = v ∧ v4 = .int .i64 (i : Int) ∧ Aside0 (kq + i = x.f3.length + 1) ∧ Aside0 (i ≤ x.f3.length) ∧ Aside0 (∀ (j : Nat) (f : S122), j < i → x.f3[j]? = some f → FrHead x j f ∧ FrPages x j f) ∧ Aside0 (SeenAt w w' [.int .i64 x.f0, .int .i64 x.f1, .int .i64 x.f2, .slice AF x.f3.length cF] (seenAt x i) v))
   case atStart => exact ⟨0, _, rfl, rfl, ⟨by omega⟩, ⟨Nat.zero_le _⟩, ⟨fun j f h => absurd h (Nat.not_lt_zero _)⟩, H0⟩
   case round =>
    clear H0 e0 e1 e1' e2 bl BA0 hbl
    obtain ⟨i, v, rfl, rfl, HQ, HI, HP, HS⟩ := hrel
    by_cases hlt : i < x.f3.length
    ·have c1 : decide ((i : Int) < (x.f3.length : Int)) = true := decide_eq_true (by omega)
     have c0 : decide ((0 : Int) ≤ (i : Int)) = true := decide_eq_true (by omega)
     have c2 : ((i : Int) < (x.f3.length : Int)) = True := eq_true (by omega)
     have c3 : ((0 : Int) ≤ (i : Int)) = True := eq_true (by omega)
     cases gk with
     | zero => exact absurd HQ.out (by omega)
     | succ k1 =>
      obtain ⟨ad, A1, c1_, hA, z0, z1, hl4, hC4⟩ := at_T122 KR.out (i : Int) (by omega) (by omega)
      subst hA
      obtain ⟨el, hel⟩ : ∃ el, el = rd_T122 x.f3 (i : Int) := ⟨_, rfl⟩
      have hel2 : x.f3[i]? = some el := by rw [hel]; simp [rd_T122, List.getD_eq_getElem?_getD, List.getElem?_eq_getElem hlt]
      rw [← hel] at z0 z1 hl4 hC4
      simp only [Int.toNat_natCast] at z0 z1
      replace z0 := (HS.out.bel.cell (World.block_lt_of_cell? w _ z0)).trans z0
      replace z1 := (HS.out.bel.cell (World.block_lt_of_cell? w _ z1)).trans z1
      have HE := Aside0.mk hel2
      have KE := Aside0.mk hC4
      have be : el.f1.length ≤ 9223372036854775807 := hC4.2.1
      have hz := blk_lt HS.out.box
      clear hel hel2 hC4 hl4
      go_upto_region 7 with (fail)
      obtain ⟨W1, hW1⟩ : ∃ W1, W1 = wr.alloc (.cells #[.int .i64 el.f0, .slice A1 el.f1.length c1_] 122) := ⟨_, rfl⟩
      have BF := Aside0.mk (show W1.heap[wr.heap.size]? = some (.cells ([.int .i64 el.f0, .slice A1 el.f1.length c1_] : List Value).toArray 122 (0, 0)) from by rw [hW1]; exact blk_new wr _)
      have HB1 := Aside0.mk (show Below wr.heap.size wr W1 from by rw [hW1]; exact below_alloc (Below.refl _ _) _)
      rw [← hW1]
      clear hW1 z0 z1
      obtain ⟨gF, hgF⟩ : ∃ g, g = wr.heap.size := ⟨_, rfl⟩
      rw [← hgF] at BF hz ⊢
      have OW := Aside0.mk (show ∀ k, u3.ownBlock = some k → k < gF from by rw [hgF]; exact Kd.R_lt HS.out.row)
      replace HS := Aside0.mk (HS.out.step HB1.out)
      clear HB1 hgF
      have hp0 : W1.cell? ⟨w.heap.size, 0, none⟩ = some (.int .i64 x.f0) := (blk_cell HS.out.box 0).trans rfl
      have hp1 : W1.cell? ⟨w.heap.size, 1, none⟩ = some (.int .i64 x.f1) := (blk_cell HS.out.box 1).trans rfl
      have hp2 : W1.cell? ⟨w.heap.size, 2, none⟩ = some (.int .i64 x.f2) := (blk_cell HS.out.box 2).trans rfl
      have hp3 : W1.cell? ⟨w.heap.size, 3, none⟩ = some (.slice (some ad) x.f3.length cF) := (blk_cell HS.out.box 3).trans rfl
      have hf0 : W1.cell? ⟨gF, 0, none⟩ = some (.int .i64 el.f0) := (blk_cell BF.out 0).trans rfl
      have hf1 : W1.cell? ⟨gF, 1, none⟩ = some (.slice A1 el.f1.length c1_) := (blk_cell BF.out 1).trans rfl
      obtain ⟨fb, hfb, hways⟩ := fi_ways x i el b HB.out HE.out
      have HFB := Aside0.mk hfb
      clear hfb
      have KE1 := Aside0.mk (Kd.C_below KE.out HS.out.bel)
      rcases hways with ⟨hbf, hways⟩ | ⟨hFr, hFo, eT, hways⟩
      ·have HBF := Aside0.mk hbf
       clear hbf
       rcases hways with rfl | ⟨rfl, p, hp, h0, hle⟩
       ·refine seq_start implMetaOk.ok7_0 (S := fun w' => w'.cell? ⟨gF, 0, none⟩ = some (.int .i64 el.f0) ∧ w'.cell? ⟨gF, 1, none⟩ = some (.slice A1 el.f1.length c1_) ∧ w'.cell? ⟨w.heap.size, 0, none⟩ = some (.int .i64 x.f0) ∧ w'.cell? ⟨w.heap.size, 1, none⟩ = some (.int .i64 x.f1) ∧ w'.cell? ⟨w.heap.size, 2, none⟩ = some (.int .i64 x.f2) ∧ w'.cell? ⟨w.heap.size, 3, none⟩ = some (.slice (some ad) x.f3.length cF)) (by kernel_rfl) (fun _ _ _ _ h => h) ⟨cell_step hf0 (Below.refl _ _).drew, cell_step hf1 (Below.refl _ _).drew, cell_step hp0 (Below.refl _ _).drew, cell_step hp1 (Below.refl _ _).drew, cell_step hp2 (Below.refl _ _).drew, cell_step hp3 (Below.refl _ _).drew⟩ (fun hHeld => ?_)
        iterate 2 (refine seq_t (v := ?_) (a' := ?_) rfl rfl (Or.inl ⟨by rfl, ?_⟩) ?_ ?_; rotate_left; (· rintro w' ⟨s0, s1, s2, s3, s4, s5⟩; go_simp; with_reducible rfl); rotate_left; (· show Act.put _ (some _) _ = _; simp only [Act.put, List.setIfInBounds_toArray, List.set_cons_zero, List.set_cons_succ, i64_w, i32_w]; try rfl))
        refine seq_call rfl rfl Try.func171 (by kernel_rfl) rfl #[.agg #[.int .i64 el.f0, .slice A1 el.f1.length c1_], .agg #[.int .i64 x.f0, .int .i64 x.f1, .int .i64 x.f2, .slice (some ad) x.f3.length cF]] (by rfl) rfl (by (try simp only [List.map_toArray, List.map_cons, List.map_nil]); first | done | rfl) ?_
        with_reducible refine (freeOk_c el x false _ (Kd.C_below KE1.out (Below.refl _ _).drew) HFB.out).mono ?_
        rintro e w2 ⟨rfl, hb⟩
        refine ⟨_, rfl, ⟨cell_step (cell_step hf0 (Below.refl _ _).drew) hb, cell_step (cell_step hf1 (Below.refl _ _).drew) hb, cell_step (cell_step hp0 (Below.refl _ _).drew) hb, cell_step (cell_step hp1 (Below.refl _ _).drew) hb, cell_step (cell_step hp2 (Below.refl _ _).drew) hb, cell_step (cell_step hp3 (Below.refl _ _).drew) hb⟩, (fun hHeld => ?_)⟩
        refine seq_norm (a' := ?_) ?_ ?_; rotate_left; (· show Act.put _ (some 51) _ = _; simp only [Act.put, List.setIfInBounds_toArray, List.set_cons_zero, List.set_cons_succ, i64_w, i32_w]; try rfl)
        iterate 2 (refine seq_p (v := ?_) (a' := ?_) rfl rfl (Or.inl ⟨by rfl, ?_⟩) ?_ ?_; rotate_left; (· intro w'; go_simp; with_reducible rfl); rotate_left; (· show Act.put _ (some _) _ = _; simp only [Act.put, List.setIfInBounds_toArray, List.set_cons_zero, List.set_cons_succ, i64_w, i32_w]; try rfl))
        iterate 14 (refine seq_p (v := undef) (a' := ?_) rfl rfl (Or.inr ⟨by rfl, rfl⟩) ?_ ?_; rotate_left; (· show Act.put _ (some _) _ = _; simp only [Act.put, List.setIfInBounds_toArray, List.set_cons_zero, List.set_cons_succ, i64_w, i32_w]; try rfl))
        (refine seq_p (v := ?_) (a' := ?_) rfl rfl (Or.inl ⟨by rfl, ?_⟩) ?_ ?_; rotate_left; (· intro w'; go_simp; with_reducible rfl); rotate_left; (· show Act.put _ (some _) _ = _; simp only [Act.put, List.setIfInBounds_toArray, List.set_cons_zero, List.set_cons_succ, i64_w, i32_w]; try rfl))
        refine seq_done ?_
        go_wp2
        go_ret
        exact ⟨rb HBF.out, below_step HS.out.bel (below_step (Below.refl _ _).drew hb)⟩
       ·have q1 : decide ((0 : Int) < (i : Int)) = true := decide_eq_true (by omega)
        have q2 : decide (0 < i) = true := decide_eq_true (by omega)
        have hs1 : IntKind.i64.wrap ((i : Int) - 1) = ((i - 1 : Nat) : Int) := by rw [i64_w]; unfold wrap64; omega
        have hs2 : (0 : Int) ≤ ((i - 1 : Nat) : Int) := by omega
        have hs3 : ((i - 1 : Nat) : Int) < (x.f3.length : Int) := by omega
        obtain ⟨ad2, hA2, zp⟩ := prev_at KR.out hp
        injection hA2 with hA2
        subst hA2
        clear hp
        replace zp := cell_step zp HS.out.bel
        have q3 : decide (el.f0 ≤ p.f0) = true := decide_eq_true hle
        refine seq_start implMetaOk.ok7_1 (S := fun w' => w'.cell? ⟨gF, 0, none⟩ = some (.int .i64 el.f0) ∧ w'.cell? ⟨gF, 1, none⟩ = some (.slice A1 el.f1.length c1_) ∧ w'.cell? ⟨w.heap.size, 0, none⟩ = some (.int .i64 x.f0) ∧ w'.cell? ⟨w.heap.size, 1, none⟩ = some (.int .i64 x.f1) ∧ w'.cell? ⟨w.heap.size, 2, none⟩ = some (.int .i64 x.f2) ∧ w'.cell? ⟨w.heap.size, 3, none⟩ = some (.slice (some ad) x.f3.length cF) ∧ w'.cell? (ad.add ((i - 1) * 2)) = some (.int .i64 p.f0)) (by kernel_rfl) (fun _ _ _ _ h => h) ⟨cell_step hf0 (Below.refl _ _).drew, cell_step hf1 (Below.refl _ _).drew, cell_step hp0 (Below.refl _ _).drew, cell_step hp1 (Below.refl _ _).drew, cell_step hp2 (Below.refl _ _).drew, cell_step hp3 (Below.refl _ _).drew, cell_step zp (Below.refl _ _).drew⟩ (fun hHeld => ?_)
        iterate 2 (refine seq_t (v := ?_) (a' := ?_) rfl rfl (Or.inl ⟨by rfl, ?_⟩) ?_ ?_; rotate_left; (· rintro w' ⟨s0, s1, s2, s3, s4, s5, s6⟩; go_simp; with_reducible rfl); rotate_left; (· show Act.put _ (some _) _ = _; simp only [Act.put, List.setIfInBounds_toArray, List.set_cons_zero, List.set_cons_succ, i64_w, i32_w]; try rfl))
        refine seq_call rfl rfl Try.func171 (by kernel_rfl) rfl #[.agg #[.int .i64 el.f0, .slice A1 el.f1.length c1_], .agg #[.int .i64 x.f0, .int .i64 x.f1, .int .i64 x.f2, .slice (some ad) x.f3.length cF]] (by rfl) rfl (by (try simp only [List.map_toArray, List.map_cons, List.map_nil]); first | done | rfl) ?_
        with_reducible refine (freeOk_c el x true _ (Kd.C_below KE1.out (Below.refl _ _).drew) HFB.out).mono ?_
        rintro e w2 ⟨rfl, hb⟩
        refine ⟨_, rfl, ⟨cell_step (cell_step hf0 (Below.refl _ _).drew) hb, cell_step (cell_step hf1 (Below.refl _ _).drew) hb, cell_step (cell_step hp0 (Below.refl _ _).drew) hb, cell_step (cell_step hp1 (Below.refl _ _).drew) hb, cell_step (cell_step hp2 (Below.refl _ _).drew) hb, cell_step (cell_step hp3 (Below.refl _ _).drew) hb, cell_step (cell_step zp (Below.refl _ _).drew) hb⟩, (fun hHeld => ?_)⟩
        refine seq_norm (a' := ?_) ?_ ?_; rotate_left; (· show Act.put _ (some 51) _ = _; simp only [Act.put, List.setIfInBounds_toArray, List.set_cons_zero, List.set_cons_succ, i64_w, i32_w]; try rfl)
        iterate 6 (refine seq_p (v := ?_) (a' := ?_) rfl rfl (Or.inl ⟨by rfl, ?_⟩) ?_ ?_; rotate_left; (· intro w'; go_simp; with_reducible rfl); rotate_left; (· show Act.put _ (some _) _ = _; simp only [Act.put, List.setIfInBounds_toArray, List.set_cons_zero, List.set_cons_succ, i64_w, i32_w]; try rfl))
        (refine seq_t (v := ?_) (a' := ?_) rfl rfl (Or.inl ⟨by rfl, ?_⟩) ?_ ?_; rotate_left; (· rintro w' ⟨s0, s1, s2, s3, s4, s5, s6⟩; go_simp; with_reducible rfl); rotate_left; (· show Act.put _ (some _) _ = _; simp only [Act.put, List.setIfInBounds_toArray, List.set_cons_zero, List.set_cons_succ, i64_w, i32_w]; try rfl))
        iterate 4 (refine seq_p (v := ?_) (a' := ?_) rfl rfl (Or.inl ⟨by rfl, ?_⟩) ?_ ?_; rotate_left; (· intro w'; go_simp; with_reducible rfl); rotate_left; (· show Act.put _ (some _) _ = _; simp only [Act.put, List.setIfInBounds_toArray, List.set_cons_zero, List.set_cons_succ, i64_w, i32_w]; try rfl))
        (refine seq_t (v := ?_) (a' := ?_) rfl rfl (Or.inl ⟨by rfl, ?_⟩) ?_ ?_; rotate_left; (· rintro w' ⟨s0, s1, s2, s3, s4, s5, s6⟩; go_simp; with_reducible rfl); rotate_left; (· show Act.put _ (some _) _ = _; simp only [Act.put, List.setIfInBounds_toArray, List.set_cons_zero, List.set_cons_succ, i64_w, i32_w]; try rfl))
        (refine seq_p (v := ?_) (a' := ?_) rfl rfl (Or.inl ⟨by rfl, ?_⟩) ?_ ?_; rotate_left; (· intro w'; go_simp; with_reducible rfl); rotate_left; (· show Act.put _ (some _) _ = _; simp only [Act.put, List.setIfInBounds_toArray, List.set_cons_zero, List.set_cons_succ, i64_w, i32_w]; try rfl))
        (refine seq_t (v := ?_) (a' := ?_) rfl rfl (Or.inl ⟨by rfl, ?_⟩) ?_ ?_; rotate_left; (· rintro w' ⟨s0, s1, s2, s3, s4, s5, s6⟩; go_simp; with_reducible rfl); rotate_left; (· show Act.put _ (some _) _ = _; simp only [Act.put, List.setIfInBounds_toArray, List.set_cons_zero, List.set_cons_succ, i64_w, i32_w]; try rfl))
        iterate 3 (refine seq_p (v := ?_) (a' := ?_) rfl rfl (Or.inl ⟨by rfl, ?_⟩) ?_ ?_; rotate_left; (· intro w'; go_simp; with_reducible rfl); rotate_left; (· show Act.put _ (some _) _ = _; simp only [Act.put, List.setIfInBounds_toArray, List.set_cons_zero, List.set_cons_succ, i64_w, i32_w]; try rfl))
        refine seq_done ?_
        go_wp2
        go_ret
        exact ⟨rb HBF.out, below_step HS.out.bel (below_step (Below.refl _ _).drew hb)⟩
      ·have HFR := Aside0.mk hFr
       have HFO := Aside0.mk hFo
       have hel1 : el.f1.length ≤ 40 := hFr.2.2.2
       subst eT
       clear hFr hFo
       rcases hways with hz0 | ⟨p, hp, h0, hle⟩
       rotate_left
       ·have q1 : decide ((0 : Int) < (i : Int)) = true := decide_eq_true (by omega)
        have q2 : decide (0 < i) = true := decide_eq_true (by omega)
        have hs1 : IntKind.i64.wrap ((i : Int) - 1) = ((i - 1 : Nat) : Int) := by rw [i64_w]; unfold wrap64; omega
        have hs2 : (0 : Int) ≤ ((i - 1 : Nat) : Int) := by omega
        have hs3 : ((i - 1 : Nat) : Int) < (x.f3.length : Int) := by omega
        obtain ⟨ad2, hA2, zp⟩ := prev_at KR.out hp
        injection hA2 with hA2
        subst hA2
        clear hp
        replace zp := cell_step zp HS.out.bel
        have q3 : decide (el.f0 ≤ p.f0) = false := decide_eq_false hle
        refine seq_start implMetaOk.ok7_1 (S := fun w' => w'.cell? ⟨gF, 0, none⟩ = some (.int .i64 el.f0) ∧ w'.cell? ⟨gF, 1, none⟩ = some (.slice A1 el.f1.length c1_) ∧ w'.cell? ⟨w.heap.size, 0, none⟩ = some (.int .i64 x.f0) ∧ w'.cell? ⟨w.heap.size, 1, none⟩ = some (.int .i64 x.f1) ∧ w'.cell? ⟨w.heap.size, 2, none⟩ = some (.int .i64 x.f2) ∧ w'.cell? ⟨w.heap.size, 3, none⟩ = some (.slice (some ad) x.f3.length cF) ∧ w'.cell? (ad.add ((i - 1) * 2)) = some (.int .i64 p.f0)) (by kernel_rfl) (fun _ _ _ _ h => h) ⟨cell_step hf0 (Below.refl _ _).drew, cell_step hf1 (Below.refl _ _).drew, cell_step hp0 (Below.refl _ _).drew, cell_step hp1 (Below.refl _ _).drew, cell_step hp2 (Below.refl _ _).drew, cell_step hp3 (Below.refl _ _).drew, cell_step zp (Below.refl _ _).drew⟩ (fun hHeld => ?_)
        iterate 2 (refine seq_t (v := ?_) (a' := ?_) rfl rfl (Or.inl ⟨by rfl, ?_⟩) ?_ ?_; rotate_left; (· rintro w' ⟨s0, s1, s2, s3, s4, s5, s6⟩; go_simp; with_reducible rfl); rotate_left; (· show Act.put _ (some _) _ = _; simp only [Act.put, List.setIfInBounds_toArray, List.set_cons_zero, List.set_cons_succ, i64_w, i32_w]; try rfl))
        refine seq_call rfl rfl Try.func171 (by kernel_rfl) rfl #[.agg #[.int .i64 el.f0, .slice A1 el.f1.length c1_], .agg #[.int .i64 x.f0, .int .i64 x.f1, .int .i64 x.f2, .slice (some ad) x.f3.length cF]] (by rfl) rfl (by (try simp only [List.map_toArray, List.map_cons, List.map_nil]); first | done | rfl) ?_
        with_reducible refine (freeOk_c el x true _ (Kd.C_below KE1.out (Below.refl _ _).drew) HFB.out).mono ?_
        rintro e w2 ⟨rfl, hb⟩
        refine ⟨_, rfl, ⟨cell_step (cell_step hf0 (Below.refl _ _).drew) hb, cell_step (cell_step hf1 (Below.refl _ _).drew) hb, cell_step (cell_step hp0 (Below.refl _ _).drew) hb, cell_step (cell_step hp1 (Below.refl _ _).drew) hb, cell_step (cell_step hp2 (Below.refl _ _).drew) hb, cell_step (cell_step hp3 (Below.refl _ _).drew) hb, cell_step (cell_step zp (Below.refl _ _).drew) hb⟩, (fun hHeld => ?_)⟩
        refine seq_norm (a' := ?_) ?_ ?_; rotate_left; (· show Act.put _ (some 51) _ = _; simp only [Act.put, List.setIfInBounds_toArray, List.set_cons_zero, List.set_cons_succ, i64_w, i32_w]; try rfl)
        iterate 6 (refine seq_p (v := ?_) (a' := ?_) rfl rfl (Or.inl ⟨by rfl, ?_⟩) ?_ ?_; rotate_left; (· intro w'; go_simp; with_reducible rfl); rotate_left; (· show Act.put _ (some _) _ = _; simp only [Act.put, List.setIfInBounds_toArray, List.set_cons_zero, List.set_cons_succ, i64_w, i32_w]; try rfl))
        (refine seq_t (v := ?_) (a' := ?_) rfl rfl (Or.inl ⟨by rfl, ?_⟩) ?_ ?_; rotate_left; (· rintro w' ⟨s0, s1, s2, s3, s4, s5, s6⟩; go_simp; with_reducible rfl); rotate_left; (· show Act.put _ (some _) _ = _; simp only [Act.put, List.setIfInBounds_toArray, List.set_cons_zero, List.set_cons_succ, i64_w, i32_w]; try rfl))
        iterate 4 (refine seq_p (v := ?_) (a' := ?_) rfl rfl (Or.inl ⟨by rfl, ?_⟩) ?_ ?_; rotate_left; (· intro w'; go_simp; with_reducible rfl); rotate_left; (· show Act.put _ (some _) _ = _; simp only [Act.put, List.setIfInBounds_toArray, List.set_cons_zero, List.set_cons_succ, i64_w, i32_w]; try rfl))
        (refine seq_t (v := ?_) (a' := ?_) rfl rfl (Or.inl ⟨by rfl, ?_⟩) ?_ ?_; rotate_left; (· rintro w' ⟨s0, s1, s2, s3, s4, s5, s6⟩; go_simp; with_reducible rfl); rotate_left; (· show Act.put _ (some _) _ = _; simp only [Act.put, List.setIfInBounds_toArray, List.set_cons_zero, List.set_cons_succ, i64_w, i32_w]; try rfl))
        (refine seq_p (v := ?_) (a' := ?_) rfl rfl (Or.inl ⟨by rfl, ?_⟩) ?_ ?_; rotate_left; (· intro w'; go_simp; with_reducible rfl); rotate_left; (· show Act.put _ (some _) _ = _; simp only [Act.put, List.setIfInBounds_toArray, List.set_cons_zero, List.set_cons_succ, i64_w, i32_w]; try rfl))
        (refine seq_t (v := ?_) (a' := ?_) rfl rfl (Or.inl ⟨by rfl, ?_⟩) ?_ ?_; rotate_left; (· rintro w' ⟨s0, s1, s2, s3, s4, s5, s6⟩; go_simp; with_reducible rfl); rotate_left; (· show Act.put _ (some _) _ = _; simp only [Act.put, List.setIfInBounds_toArray, List.set_cons_zero, List.set_cons_succ, i64_w, i32_w]; try rfl))
        iterate 3 (refine seq_p (v := ?_) (a' := ?_) rfl rfl (Or.inl ⟨by rfl, ?_⟩) ?_ ?_; rotate_left; (· intro w'; go_simp; with_reducible rfl); rotate_left; (· show Act.put _ (some _) _ = _; simp only [Act.put, List.setIfInBounds_toArray, List.set_cons_zero, List.set_cons_succ, i64_w, i32_w]; try rfl))
        refine seq_done ?_
        clear zp
        clear hHeld
        have HB2 := Aside0.mk (below_step (Below.refl _ _).drew hb)
        clear hp0 hp1 hp2 hp3 hf0 hf1 hb
        replace HS := Aside0.mk (HS.out.step HB2.out)
        replace BF := Aside0.mk (blk_below BF.out HB2.out)
        clear HB2 KE1
        have hf1 : w2.cell? ⟨gF, 1, none⟩ = some (.slice A1 el.f1.length c1_) := (blk_cell BF.out 1).trans rfl
        go_wp2_with fail
        clear hf1
        go_loopg [3, 72] (el.f1.length + 1) (fun kq v3 v6 w' => ∃ (k : Nat) (v : Value), v3 = v ∧ v6 = .int .i64 (k : Int) ∧ Aside0 (kq + k = el.f1.length + 1) ∧ Aside0 (k ≤ el.f1.length) ∧ Aside0 (∀ (j : Nat) (p : Int), j < k → el.f1[j]? = some p → PgOk x (seenAt x i) el.f1 j p) ∧ Aside0 (SeenAt w w' [.int .i64 x.f0, .int .i64 x.f1, .int .i64 x.f2, .slice (some ad) x.f3.length cF] (seenAt x i ++ el.f1.take k) v) ∧ Aside0 (w'.heap[gF]? = some (.cells ([.int .i64 el.f0, .slice A1 el.f1.length c1_] : List Value).toArray 122 (0, 0))) ∧ Aside0 (∀ q, v.ownBlock = some q → q ≠ gF))
        case atStart => exact ⟨0, _, rfl, rfl, ⟨by omega⟩, ⟨Nat.zero_le _⟩, ⟨fun j p h => absurd h (Nat.not_lt_zero _)⟩, ⟨by rw [List.take_zero, List.append_nil]; exact HS.out⟩, BF, ⟨fun q hq => Nat.ne_of_lt (OW.out q hq)⟩⟩
        case round =>
         clear HS BF OW
         obtain ⟨k, v, rfl, rfl, HQ2, HI2, HP2, HS, BF, OW⟩ := hrel
         obtain ⟨sn, hsn⟩ : ∃ sn, sn = seenAt x i ++ el.f1.take k := ⟨_, rfl⟩
         have hsl2 : sn.length ≤ 2000000 := by
          have h1 := seen_len2 (fun j f hj hf => (HP.out j f hj hf).1.2.2.2) i (Nat.le_refl _) HI.out
          have h2 := List.length_take_le k el.f1
          have h3 := HI.out
          have h4 := HI2.out
          rw [hsn, List.length_append]
          omega
         rw [← hsn] at HS
         have HSN := Aside0.mk hsn
         clear hsn
         obtain ⟨Av, cv, rfl⟩ := Kd.R_slice HS.out.row
         by_cases hk : k < el.f1.length
         ·have d1 : decide ((k : Int) < (el.f1.length : Int)) = true := decide_eq_true (by omega)
          have d0 : decide ((0 : Int) ≤ (k : Int)) = true := decide_eq_true (by omega)
          have d2 : ((k : Int) < (el.f1.length : Int)) = True := eq_true (by omega)
          have d3 : ((0 : Int) ≤ (k : Int)) = True := eq_true (by omega)
          cases gk with
          | zero => exact absurd HQ2.out (by omega)
          | succ k2 =>
           obtain ⟨ap, hAp, pc⟩ := C_at KE.out hk
           subst hAp
           obtain ⟨p, hp⟩ : ∃ p, p = el.f1[k] := ⟨_, rfl⟩
           rw [← hp] at pc
           have HPK := Aside0.mk (show el.f1[k]? = some p from by rw [hp]; exact List.getElem?_eq_getElem hk)
           clear hp
           replace pc := cell_step pc HS.out.bel
           have KS := Aside0.mk (Kd.R_reads' HS.out.row).2.2
           by_cases hin : p ∈ sn
           ·have eS : hasB sn p = true := decide_eq_true hin
            have HBF := Aside0.mk (bfalse HB.out (fun hm => ((hm.2 i el HE.out).2 k p HPK.out).2.2 (by rw [← HSN.out]; exact hin)))
            clear hin
            go_wp2_with (((with_reducible refine (hasI _ _ _ _ _ KS.out hsl2).mono ?_); rintro e w1 ⟨rfl, rfl⟩; rw [eS]))
            go_ret
            exact ⟨rb HBF.out, HS.out.bel⟩
           ·have eS : hasB sn p = false := decide_eq_false hin
            have HPG := Aside0.mk (show PgOk x (seenAt x i) el.f1 k p from ⟨(HFO.out.1 k p HPK.out).1, (HFO.out.1 k p HPK.out).2, by rw [← HSN.out]; exact hin⟩)
            clear hin
            go_wp2_with (first | ((with_reducible refine (hasI _ _ _ _ _ KS.out hsl2).mono ?_); rintro e w1 ⟨rfl, rfl⟩; rw [eS]) | ((with_reducible refine gate_builtin (b := .append) (xs := #[.tmp 79, .tmp 81]) rfl ?_); at_builtin; refine seen_app rfl (.tmp 79) (.tmp 81) rfl rfl rfl HS.out BF.out OW.out hsl2 ?_; intro v1 w1 HS1 BF1 OW1))
            go_roundg k2
            case measure => omega
            case rel => exact ⟨k + 1, _, rfl, by go_num, ⟨by have := HQ2.out; omega⟩, ⟨by omega⟩, ⟨fun j p2 hj hf => by
             rcases Nat.lt_or_ge j k with h2 | h2
             ·exact HP2.out j p2 h2 hf
             ·obtain rfl : j = k := by omega
              have := HPK.out.symm.trans hf
              injection this with this
              subst this
              exact HPG.out⟩, ⟨by
              obtain ⟨hkl, hkv⟩ := List.getElem?_eq_some_iff.1 HPK.out
              rw [List.take_succ_eq_append_getElem hkl, hkv, ← List.append_assoc, ← HSN.out]
              exact HS1.out⟩, BF1, OW1⟩
         ·have d1 : decide ((k : Int) < (el.f1.length : Int)) = false := decide_eq_false (by omega)
          have hk2 : k = el.f1.length := by have := HI2.out; omega
          have hsn : sn = seenAt x (i + 1) := by rw [HSN.out, hk2, List.take_length, seen_succ HE.out]
          have HSN2 := Aside0.mk hsn
          have HK2 := Aside0.mk hk2
          clear hsn hk2
          go_wp2
          go_roundg k1
          case measure => omega
          case rel => exact ⟨i + 1, _, rfl, by go_num, ⟨by have := HQ.out; omega⟩, ⟨by omega⟩, ⟨fun j f hj hf => by
           rcases Nat.lt_or_ge j i with h2 | h2
           ·exact HP.out j f h2 hf
           ·obtain rfl : j = i := by omega
            have := HE.out.symm.trans hf
            injection this with this
            subst this
            exact ⟨HFR.out, fun k p hp => HP2.out k p (by rw [HK2.out]; exact (List.getElem?_eq_some_iff.1 hp).1) hp⟩⟩, ⟨by rw [← HSN2.out]; exact HS.out⟩⟩
       ·have q1 : decide ((0 : Int) < (i : Int)) = false := decide_eq_false (by omega)
        have q2 : decide (0 < i) = false := decide_eq_false (by omega)
        clear hz0
        refine seq_start implMetaOk.ok7_0 (S := fun w' => w'.cell? ⟨gF, 0, none⟩ = some (.int .i64 el.f0) ∧ w'.cell? ⟨gF, 1, none⟩ = some (.slice A1 el.f1.length c1_) ∧ w'.cell? ⟨w.heap.size, 0, none⟩ = some (.int .i64 x.f0) ∧ w'.cell? ⟨w.heap.size, 1, none⟩ = some (.int .i64 x.f1) ∧ w'.cell? ⟨w.heap.size, 2, none⟩ = some (.int .i64 x.f2) ∧ w'.cell? ⟨w.heap.size, 3, none⟩ = some (.slice (some ad) x.f3.length cF)) (by kernel_rfl) (fun _ _ _ _ h => h) ⟨cell_step hf0 (Below.refl _ _).drew, cell_step hf1 (Below.refl _ _).drew, cell_step hp0 (Below.refl _ _).drew, cell_step hp1 (Below.refl _ _).drew, cell_step hp2 (Below.refl _ _).drew, cell_step hp3 (Below.refl _ _).drew⟩ (fun hHeld => ?_)
        iterate 2 (refine seq_t (v := ?_) (a' := ?_) rfl rfl (Or.inl ⟨by rfl, ?_⟩) ?_ ?_; rotate_left; (· rintro w' ⟨s0, s1, s2, s3, s4, s5⟩; go_simp; with_reducible rfl); rotate_left; (· show Act.put _ (some _) _ = _; simp only [Act.put, List.setIfInBounds_toArray, List.set_cons_zero, List.set_cons_succ, i64_w, i32_w]; try rfl))
        refine seq_call rfl rfl Try.func171 (by kernel_rfl) rfl #[.agg #[.int .i64 el.f0, .slice A1 el.f1.length c1_], .agg #[.int .i64 x.f0, .int .i64 x.f1, .int .i64 x.f2, .slice (some ad) x.f3.length cF]] (by rfl) rfl (by (try simp only [List.map_toArray, List.map_cons, List.map_nil]); first | done | rfl) ?_
        with_reducible refine (freeOk_c el x true _ (Kd.C_below KE1.out (Below.refl _ _).drew) HFB.out).mono ?_
        rintro e w2 ⟨rfl, hb⟩
        refine ⟨_, rfl, ⟨cell_step (cell_step hf0 (Below.refl _ _).drew) hb, cell_step (cell_step hf1 (Below.refl _ _).drew) hb, cell_step (cell_step hp0 (Below.refl _ _).drew) hb, cell_step (cell_step hp1 (Below.refl _ _).drew) hb, cell_step (cell_step hp2 (Below.refl _ _).drew) hb, cell_step (cell_step hp3 (Below.refl _ _).drew) hb⟩, (fun hHeld => ?_)⟩
        refine seq_norm (a' := ?_) ?_ ?_; rotate_left; (· show Act.put _ (some 51) _ = _; simp only [Act.put, List.setIfInBounds_toArray, List.set_cons_zero, List.set_cons_succ, i64_w, i32_w]; try rfl)
        iterate 5 (refine seq_p (v := ?_) (a' := ?_) rfl rfl (Or.inl ⟨by rfl, ?_⟩) ?_ ?_; rotate_left; (· intro w'; go_simp; with_reducible rfl); rotate_left; (· show Act.put _ (some _) _ = _; simp only [Act.put, List.setIfInBounds_toArray, List.set_cons_zero, List.set_cons_succ, i64_w, i32_w]; try rfl))
        iterate 10 (refine seq_p (v := undef) (a' := ?_) rfl rfl (Or.inr ⟨by rfl, rfl⟩) ?_ ?_; rotate_left; (· show Act.put _ (some _) _ = _; simp only [Act.put, List.setIfInBounds_toArray, List.set_cons_zero, List.set_cons_succ, i64_w, i32_w]; try rfl))
        iterate 2 (refine seq_p (v := ?_) (a' := ?_) rfl rfl (Or.inl ⟨by rfl, ?_⟩) ?_ ?_; rotate_left; (· intro w'; go_simp; with_reducible rfl); rotate_left; (· show Act.put _ (some _) _ = _; simp only [Act.put, List.setIfInBounds_toArray, List.set_cons_zero, List.set_cons_succ, i64_w, i32_w]; try rfl))
        refine seq_done ?_
        clear hHeld
        have HB2 := Aside0.mk (below_step (Below.refl _ _).drew hb)
        clear hp0 hp1 hp2 hp3 hf0 hf1 hb
        replace HS := Aside0.mk (HS.out.step HB2.out)
        replace BF := Aside0.mk (blk_below BF.out HB2.out)
        clear HB2 KE1
        have hf1 : w2.cell? ⟨gF, 1, none⟩ = some (.slice A1 el.f1.length c1_) := (blk_cell BF.out 1).trans rfl
        go_wp2_with fail
        clear hf1
        go_loopg [3, 72] (el.f1.length + 1) (fun kq v3 v6 w' => ∃ (k : Nat) (v : Value), v3 = v ∧ v6 = .int .i64 (k : Int) ∧ Aside0 (kq + k = el.f1.length + 1) ∧ Aside0 (k ≤ el.f1.length) ∧ Aside0 (∀ (j : Nat) (p : Int), j < k → el.f1[j]? = some p → PgOk x (seenAt x i) el.f1 j p) ∧ Aside0 (SeenAt w w' [.int .i64 x.f0, .int .i64 x.f1, .int .i64 x.f2, .slice (some ad) x.f3.length cF] (seenAt x i ++ el.f1.take k) v) ∧ Aside0 (w'.heap[gF]? = some (.cells ([.int .i64 el.f0, .slice A1 el.f1.length c1_] : List Value).toArray 122 (0, 0))) ∧ Aside0 (∀ q, v.ownBlock = some q → q ≠ gF))
        case atStart => exact ⟨0, _, rfl, rfl, ⟨by omega⟩, ⟨Nat.zero_le _⟩, ⟨fun j p h => absurd h (Nat.not_lt_zero _)⟩, ⟨by rw [List.take_zero, List.append_nil]; exact HS.out⟩, BF, ⟨fun q hq => Nat.ne_of_lt (OW.out q hq)⟩⟩
        case round =>
         clear HS BF OW
         obtain ⟨k, v, rfl, rfl, HQ2, HI2, HP2, HS, BF, OW⟩ := hrel
         obtain ⟨sn, hsn⟩ : ∃ sn, sn = seenAt x i ++ el.f1.take k := ⟨_, rfl⟩
         have hsl2 : sn.length ≤ 2000000 := by
          have h1 := seen_len2 (fun j f hj hf => (HP.out j f hj hf).1.2.2.2) i (Nat.le_refl _) HI.out
          have h2 := List.length_take_le k el.f1
          have h3 := HI.out
          have h4 := HI2.out
          rw [hsn, List.length_append]
          omega
         rw [← hsn] at HS
         have HSN := Aside0.mk hsn
         clear hsn
         obtain ⟨Av, cv, rfl⟩ := Kd.R_slice HS.out.row
         by_cases hk : k < el.f1.length
         ·have d1 : decide ((k : Int) < (el.f1.length : Int)) = true := decide_eq_true (by omega)
          have d0 : decide ((0 : Int) ≤ (k : Int)) = true := decide_eq_true (by omega)
          have d2 : ((k : Int) < (el.f1.length : Int)) = True := eq_true (by omega)
          have d3 : ((0 : Int) ≤ (k : Int)) = True := eq_true (by omega)
          cases gk with
          | zero => exact absurd HQ2.out (by omega)
          | succ k2 =>
           obtain ⟨ap, hAp, pc⟩ := C_at KE.out hk
           subst hAp
           obtain ⟨p, hp⟩ : ∃ p, p = el.f1[k] := ⟨_, rfl⟩
           rw [← hp] at pc
           have HPK := Aside0.mk (show el.f1[k]? = some p from by rw [hp]; exact List.getElem?_eq_getElem hk)
           clear hp
           replace pc := cell_step pc HS.out.bel
           have KS := Aside0.mk (Kd.R_reads' HS.out.row).2.2
           by_cases hin : p ∈ sn
           ·have eS : hasB sn p = true := decide_eq_true hin
            have HBF := Aside0.mk (bfalse HB.out (fun hm => ((hm.2 i el HE.out).2 k p HPK.out).2.2 (by rw [← HSN.out]; exact hin)))
            clear hin
            go_wp2_with (((with_reducible refine (hasI _ _ _ _ _ KS.out hsl2).mono ?_); rintro e w1 ⟨rfl, rfl⟩; rw [eS]))
            go_ret
            exact ⟨rb HBF.out, HS.out.bel⟩
           ·have eS : hasB sn p = false := decide_eq_false hin
            have HPG := Aside0.mk (show PgOk x (seenAt x i) el.f1 k p from ⟨(HFO.out.1 k p HPK.out).1, (HFO.out.1 k p HPK.out).2, by rw [← HSN.out]; exact hin⟩)
            clear hin
            go_wp2_with (first | ((with_reducible refine (hasI _ _ _ _ _ KS.out hsl2).mono ?_); rintro e w1 ⟨rfl, rfl⟩; rw [eS]) | ((with_reducible refine gate_builtin (b := .append) (xs := #[.tmp 79, .tmp 81]) rfl ?_); at_builtin; refine seen_app rfl (.tmp 79) (.tmp 81) rfl rfl rfl HS.out BF.out OW.out hsl2 ?_; intro v1 w1 HS1 BF1 OW1))
            go_roundg k2
            case measure => omega
            case rel => exact ⟨k + 1, _, rfl, by go_num, ⟨by have := HQ2.out; omega⟩, ⟨by omega⟩, ⟨fun j p2 hj hf => by
             rcases Nat.lt_or_ge j k with h2 | h2
             ·exact HP2.out j p2 h2 hf
             ·obtain rfl : j = k := by omega
              have := HPK.out.symm.trans hf
              injection this with this
              subst this
              exact HPG.out⟩, ⟨by
              obtain ⟨hkl, hkv⟩ := List.getElem?_eq_some_iff.1 HPK.out
              rw [List.take_succ_eq_append_getElem hkl, hkv, ← List.append_assoc, ← HSN.out]
              exact HS1.out⟩, BF1, OW1⟩
         ·have d1 : decide ((k : Int) < (el.f1.length : Int)) = false := decide_eq_false (by omega)
          have hk2 : k = el.f1.length := by have := HI2.out; omega
          have hsn : sn = seenAt x (i + 1) := by rw [HSN.out, hk2, List.take_length, seen_succ HE.out]
          have HSN2 := Aside0.mk hsn
          have HK2 := Aside0.mk hk2
          clear hsn hk2
          go_wp2
          go_roundg k1
          case measure => omega
          case rel => exact ⟨i + 1, _, rfl, by go_num, ⟨by have := HQ.out; omega⟩, ⟨by omega⟩, ⟨fun j f hj hf => by
           rcases Nat.lt_or_ge j i with h2 | h2
           ·exact HP.out j f h2 hf
           ·obtain rfl : j = i := by omega
            have := HE.out.symm.trans hf
            injection this with this
            subst this
            exact ⟨HFR.out, fun k p hp => HP2.out k p (by rw [HK2.out]; exact (List.getElem?_eq_some_iff.1 hp).1) hp⟩⟩, ⟨by rw [← HSN2.out]; exact HS.out⟩⟩
    ·have c1 : decide ((i : Int) < (x.f3.length : Int)) = false := decide_eq_false (by omega)
     have hbt : true = b := (HB.out.2 ⟨HH.out, fun j f hj => HP.out j f (by have := (List.getElem?_eq_some_iff.1 hj).1; have := HI.out; omega) hj⟩).symm
     have HBT := Aside0.mk hbt
     clear hbt
     go_wp2
     go_ret
     exact ⟨rb HBT.out, HS.out.bel⟩
 ·have HBF := Aside0.mk (bfalse HB.out (fun h => hh h.1))
  rcases mh_ways x hh with e0 | ⟨e0, e2⟩ | ⟨⟨e0, e2, h2a, h2b⟩, ⟨e1, e1', e1''⟩ | ⟨⟨e1, e1'⟩, bl⟩ | ⟨⟨e1, e1', e1''⟩, bl⟩⟩
  all_goals
   clear hh
   go_enter Try.func144, Try.ntmps144
   go_wp2_with (((with_reducible refine (inI _ _ _ _).mono ?_); rintro e w1 ⟨rfl, rfl⟩))
   go_ret
   exact ⟨rb HBF.out, hbl.out⟩
def spec_l02Four.f (a0 : Int) : Option (ByteArray) := some (strOfNums (([(a0 / 16777216) % 256, (a0 / 65536) % 256, (a0 / 256) % 256, (a0) % 256] : List Int)))
theorem spec_l02Four.calls (a0 : Int) (r : ByteArray) (w : World) (h : spec_l02Four.f a0 = some r) :
  Calls Try.prog 147 #[.int .u32 a0] w fun e w' => e = .returned (.string r) ∧ Below w.heap.size w w' := by
 have HB := Aside0.mk (Below.refl w.heap.size w)
 have H : (some (strOfNums (([(a0 / 16777216) % 256, (a0 / 65536) % 256, (a0 / 256) % 256, (a0) % 256] : List Int)))) = some r := h
 clear h
 obtain ⟨y135, hy135⟩ : ∃ y_ : List Int, y_ = (([(a0 / 16777216) % 256, (a0 / 65536) % 256, (a0 / 256) % 256, (a0) % 256] : List Int)) := ⟨_, rfl⟩
 replace H : (some (strOfNums y135)) = some r := by first | (rw [hy135]; with_reducible exact H) | (have H2_ := (Option.bind_some _ _).symm.trans H; rw [hy135]; with_reducible exact H2_) | (have H2_ := (Option.bind_some _ _).symm.trans H; with_reducible exact H2_) | with_reducible exact H | (rw [hy135]; exact H) | exact H
 have Ny135 := Aside0.mk hy135
 clear hy135
 obtain rfl := Option.some.inj H
 go_enter Try.func147, Try.ntmps147
 go_wp2_with (first | ((with_reducible refine gate_dst (N := 14) rfl ?_); refine Kd.R_lit (Kd.int .u8) _ 5 ?hg (N := 14) ?hd (xs := ([(a0 / 16777216) % 256, (a0 / 65536) % 256, (a0 / 256) % 256, (a0) % 256] : List Int)) (inner := [.int .u8 ((a0 / 16777216) % 256), .int .u8 ((a0 / 65536) % 256), .int .u8 ((a0 / 256) % 256), .int .u8 ((a0) % 256)]) (ok := fun _ => True) (okp := fun _ => True) ?hr ?hp (fun _ hk => hk) trivial (Below.refl _ _) (Nat.le_refl _) (by simp) ?_; (case hd => rfl); (case hg => rfl); (case hr => first | (go_simp; done) | (go_simp; rfl)); (case hp => exact (Reps.one (show Kd.M (Kd.int .u8) _ _ _ ((a0 / 16777216) % 256) [.int .u8 ((a0 / 16777216) % 256)] from rfl) (Reps.one (show Kd.M (Kd.int .u8) _ _ _ ((a0 / 65536) % 256) [.int .u8 ((a0 / 65536) % 256)] from rfl) (Reps.one (show Kd.M (Kd.int .u8) _ _ _ ((a0 / 256) % 256) [.int .u8 ((a0 / 256) % 256)] from rfl) (Reps.one (show Kd.M (Kd.int .u8) _ _ _ ((a0) % 256) [.int .u8 ((a0) % 256)] from rfl) (Reps.none _ _)))))); intro v136 w2 ho3 hb hg_ hnew_; clear hg_ hnew_; (first | rw [← Ny135.out] at ho3 | (simp only [Int.reduceToNat] at ho3; rw [← Ny135.out] at ho3)); have n0_ := Aside0.mk (Kd.R_lower ho3 (below_size (by repeat (first | (with_reducible first | exact HB.out | apply below_alloc | apply pw_below_drewN | apply below_drew1) | exact HB.out)))); have n1_ := Aside0.mk (below_step (by repeat (first | (with_reducible first | exact HB.out | apply below_alloc | apply pw_below_drewN | apply below_drew1) | exact HB.out)) hb); clear HB; have HO137 := n0_; have HB := n1_; clear n0_ n1_; clear hb ho3; have hcv4 := own_string (P := Try.prog) Try.underlying171 Try.underlying5 Try.underlying9 (Kd.own_of_R HO137.out)))
 go_ret
 exact ⟨by first | rfl | (simp [errW_none, errW_some] <;> rfl) | (simp [*, errW_none, errW_some] <;> rfl), by repeat (first | (with_reducible first | exact HB.out | apply below_alloc | apply pw_below_drewN | apply below_drew1) | exact HB.out)⟩
mutual
def spec_SumMore.l0 : Nat → Int → ByteArray → Int → Option (Int)
 | 0, _, _, _ => none
 | k + 1, x0, x1, x5 => if x5 < (x1.size : Int) then (if 0 ≤ x5 then (spec_SumMore.l1 k (Go.bits .xor .u32 x0 ((bt x1 x5) % 4294967296)) x1 x5 0) else (none)) else (some x0)
def spec_SumMore.l1 : Nat → Int → ByteArray → Int → Int → Option (Int)
 | 0, _, _, _, _ => none
 | k + 1, x0, x1, x5, x6 => if x6 < 8 then (if (Int.tmod x0 2) = 1 then (spec_SumMore.l1 k (Go.bits .xor .u32 ((Int.tdiv x0 2) % 4294967296) 3558460437) x1 x5 (wrap64 (x6 + 1))) else (spec_SumMore.l1 k ((Int.tdiv x0 2) % 4294967296) x1 x5 (wrap64 (x6 + 1)))) else (spec_SumMore.l0 k x0 x1 (wrap64 (x5 + 1)))
end
def spec_SumMore.f (k : Nat) (a0 : Int) (a1 : ByteArray) : Option (Int) := spec_SumMore.l0 k a0 a1 0
theorem spec_SumMore.mono_l : ∀ k, (∀ y0 y1 y2, LeO (spec_SumMore.l0 k y0 y1 y2) (spec_SumMore.l0 (k + 1) y0 y1 y2)) ∧ (∀ y0 y1 y2 y3, LeO (spec_SumMore.l1 k y0 y1 y2 y3) (spec_SumMore.l1 (k + 1) y0 y1 y2 y3))
 | 0 => ⟨fun _ _ _ r h => by simp [spec_SumMore.l0] at h, fun _ _ _ _ r h => by simp [spec_SumMore.l1] at h⟩
 | k + 1 => by
  obtain ⟨ih0, ih1⟩ := spec_SumMore.mono_l k
  refine ⟨?_, ?_⟩
  ·intro y0 y1 y2
   unfold spec_SumMore.l0
   repeat' first
   | (with_reducible exact ih0 _ _ _)
   | (with_reducible exact ih1 _ _ _ _)
   | (with_reducible exact LeO.refl _)
   | (with_reducible exact LeO.none _)
   | (with_reducible refine LeO.ite ?_ ?_)
   | (with_reducible refine LeO.bind ?_ (fun _ => ?_))
   | exact ih0 _ _ _
   | exact ih1 _ _ _ _
  ·intro y0 y1 y2 y3
   unfold spec_SumMore.l1
   repeat' first
   | (with_reducible exact ih0 _ _ _)
   | (with_reducible exact ih1 _ _ _ _)
   | (with_reducible exact LeO.refl _)
   | (with_reducible exact LeO.none _)
   | (with_reducible refine LeO.ite ?_ ?_)
   | (with_reducible refine LeO.bind ?_ (fun _ => ?_))
   | exact ih0 _ _ _
   | exact ih1 _ _ _ _
theorem spec_SumMore.mono : ∀ a0 a1 k, LeO (spec_SumMore.f k a0 a1) (spec_SumMore.f (k + 1) a0 a1) := by
 intro a0 a1 k
 obtain ⟨ih0, ih1⟩ := spec_SumMore.mono_l k
 unfold spec_SumMore.f
 repeat' first
   | (with_reducible exact ih0 _ _ _)
   | (with_reducible exact ih1 _ _ _ _)
   | (with_reducible exact LeO.refl _)
   | (with_reducible exact LeO.none _)
   | (with_reducible refine LeO.ite ?_ ?_)
   | (with_reducible refine LeO.bind ?_ (fun _ => ?_))
   | exact ih0 _ _ _
   | exact ih1 _ _ _ _
theorem spec_SumMore.calls (k : Nat) (a0 : Int) (a1 : ByteArray) (r : Int) (w : World) (h : spec_SumMore.f k a0 a1 = some r) :
  Calls Try.prog 173 #[.int .u32 a0, .string a1] w fun e w' => e = .returned (.int .u32 r) ∧ Drawn0 w w' := by
 have H : (spec_SumMore.l0 k a0 a1 0) = some r := h
 clear h
 have H' := Aside0.mk H
 clear H
 go_enter Try.func173, Try.ntmps173
 go_wp2
 go_loopg [0, 5] k (fun kq v0 v5 w' => ∃ (x0_1 : Int) (x5_1 : Int), v0 = .int .u32 x0_1 ∧ v5 = .int .i64 x5_1 ∧ Aside0 (spec_SumMore.l0 kq x0_1 a1 x5_1 = some r) ∧ Aside0 (kq ≤ k) ∧ Drawn0 w w')
 case atStart => exact ⟨(a0), (0), (by first | rfl | (simp; done) | (simp [*]; done)), (by first | rfl | (simp; done) | (simp [*]; done)), H', ⟨Nat.le_refl _⟩, by repeat (first | exact Drawn0.refl _ | apply Drawn0.step)⟩
 case round =>
  clear H'
  obtain ⟨x0_1, x5_1, rfl, rfl, HA, HK1, ⟨m1, rfl⟩⟩ := hrel
  cases gk with
  | zero => exact absurd HA.out (by simp [spec_SumMore.l0])
  | succ k1 =>
   have H := HA.out
   clear HA
   simp only [spec_SumMore.l0] at H
   by_cases c3 : x5_1 < (a1.size : Int)
   ·rw [if_pos c3] at H
    have c3b0 : decide (x5_1 < (a1.size : Int)) = true := decide_eq_true c3
    clear c3
    by_cases c4 : 0 ≤ x5_1
    ·rw [if_pos c4] at H
     have c4b0 : decide (0 ≤ x5_1) = true := decide_eq_true c4
     clear c4
     have H' := Aside0.mk H
     clear H
     have p5 : 0 ≤ (x5_1 : Int) := of_decide_eq_true (by with_reducible assumption)
     have q5 : x5_1 < (a1.size : Int) := of_decide_eq_true (by with_reducible assumption)
     have hx5 := bt_at a1 x5_1
     replace p5 := eq_true p5
     replace q5 := eq_true q5
     go_wp2
     go_loopg [0, 6] k1 (fun kq v0 v6 w' => ∃ (x0_2 : Int) (x6_2 : Int), v0 = .int .u32 x0_2 ∧ v6 = .int .i64 x6_2 ∧ Aside0 (spec_SumMore.l1 kq x0_2 a1 x5_1 x6_2 = some r) ∧ Aside0 (kq ≤ k1) ∧ Drawn0 w w')
     case atStart => exact ⟨(Go.bits .xor .u32 x0_1 ((bt a1 x5_1) % 4294967296)), (0), (by first | rfl | (simp; done) | (simp [*]; done)), (by first | rfl | (simp; done) | (simp [*]; done)), H', ⟨Nat.le_refl _⟩, by repeat (first | exact Drawn0.refl _ | apply Drawn0.step)⟩
     case round =>
      clear H'
      try clear c3
      try clear c3b0
      try clear c4
      try clear c4b0
      try clear p5
      try clear q5
      try clear hx5
      try clear p5
      try clear q5
      obtain ⟨x0_2, x6_2, rfl, rfl, HA, HK2, ⟨m2, rfl⟩⟩ := hrel
      cases gk with
      | zero => exact absurd HA.out (by simp [spec_SumMore.l1])
      | succ k2 =>
       have H := HA.out
       clear HA
       simp only [spec_SumMore.l1] at H
       by_cases c6 : x6_2 < 8
       ·rw [if_pos c6] at H
        have c6b0 : decide (x6_2 < 8) = true := decide_eq_true c6
        clear c6
        by_cases c7 : (Int.tmod x0_2 2) = 1
        ·rw [if_pos c7] at H
         have c7b0 : ((Int.tmod x0_2 2) == 1) = true := beq_iff_eq.mpr c7
         have c7b1 : ((Int.tmod x0_2 2) != 1) = false := bne_eq_false_iff_eq.mpr c7
         clear c7
         have H' := Aside0.mk H
         clear H
         go_wp2
         go_roundg k2
         case measure => have := HK1.out; have := HK2.out; omega
         case rel => exact ⟨(Go.bits .xor .u32 ((Int.tdiv x0_2 2) % 4294967296) 3558460437), (wrap64 (x6_2 + 1)), (by first | rfl | (simp; done) | (simp [*]; done)), (by first | rfl | (simp; done) | (simp [*]; done)), H', ⟨by have := HK1.out; have := HK2.out; omega⟩, by repeat (first | exact Drawn0.refl _ | apply Drawn0.step)⟩
        ·rw [if_neg c7] at H
         have c7b0 : ((Int.tmod x0_2 2) == 1) = false := beq_eq_false_iff_ne.mpr c7
         have c7b1 : ((Int.tmod x0_2 2) != 1) = true := bne_iff_ne.mpr c7
         have H' := Aside0.mk H
         clear H
         go_wp2
         go_roundg k2
         case measure => have := HK1.out; have := HK2.out; omega
         case rel => exact ⟨((Int.tdiv x0_2 2) % 4294967296), (wrap64 (x6_2 + 1)), (by first | rfl | (simp; done) | (simp [*]; done)), (by first | rfl | (simp; done) | (simp [*]; done)), H', ⟨by have := HK1.out; have := HK2.out; omega⟩, by repeat (first | exact Drawn0.refl _ | apply Drawn0.step)⟩
       ·rw [if_neg c6] at H
        have c6b0 : decide (x6_2 < 8) = false := decide_eq_false c6
        clear c6
        have H' := Aside0.mk H
        clear H
        go_wp2
        go_roundg k2
        case measure => have := HK1.out; have := HK2.out; omega
        case rel => exact ⟨(x0_2), (wrap64 (x5_1 + 1)), (by first | rfl | (simp; done) | (simp [*]; done)), (by first | rfl | (simp; done) | (simp [*]; done)), H', ⟨by have := HK1.out; have := HK2.out; omega⟩, by repeat (first | exact Drawn0.refl _ | apply Drawn0.step)⟩
    ·rw [if_neg c4] at H
     exact absurd H (by simp)
   ·rw [if_neg c3] at H
    have c3b0 : decide (x5_1 < (a1.size : Int)) = false := decide_eq_false c3
    clear c3
    obtain rfl := Option.some.inj H
    go_wp2
    go_ret
    exact ⟨by first | rfl | (simp; done) | (simp [*]; done), by repeat (first | exact Drawn0.refl _ | apply Drawn0.step)⟩
def spec_SumOf.f (k : Nat) (a0 : ByteArray) : Option (Int) := (spec_SumMore.f k 4294967295 a0).bind fun t138 => (some t138)
theorem spec_SumOf.mono : ∀ a0 k, LeO (spec_SumOf.f k a0) (spec_SumOf.f (k + 1) a0) := by
 intro a0 k
 unfold spec_SumOf.f
 repeat' first
   | (with_reducible exact spec_SumMore.mono _ _ _)
   | (with_reducible exact LeO.refl _)
   | (with_reducible exact LeO.none _)
   | (with_reducible refine LeO.ite ?_ ?_)
   | (with_reducible refine LeO.bind ?_ (fun _ => ?_))
   | exact spec_SumMore.mono _ _ _
theorem spec_SumOf.calls (k : Nat) (a0 : ByteArray) (r : Int) (w : World) (h : spec_SumOf.f k a0 = some r) :
  Calls Try.prog 148 #[.string a0] w fun e w' => e = .returned (.int .u32 r) ∧ Drawn0 w w' := by
 have H : ((spec_SumMore.f k 4294967295 a0).bind fun t138 => (some t138)) = some r := h
 clear h
 replace H := Option.bind_eq_some_iff.mp H
 obtain ⟨t138, A20, H⟩ := H
 replace H : (some t138) = some r := H
 have A2 := Aside0.mk A20
 clear A20
 obtain rfl := Option.some.inj H
 go_enter Try.func148, Try.ntmps148
 go_wp2_with (first | ((with_reducible refine gate_callee (f := 173) rfl ?_); refine goesL_ (some 4) rfl rfl Try.func173 (by kernel_rfl) rfl #[.int .u32 4294967295, .string a0] rfl (by (try simp only [List.map_toArray, List.map_cons, List.map_nil]); first | done | rfl | (simp only [List.length_drop, List.length_take]; rfl)) ?_; (with_reducible refine (spec_SumMore.calls k 4294967295 a0 t138 _ A2.out).mono ?_); rintro e w' ⟨rfl, ⟨nd, rfl⟩⟩; refine ⟨_, rfl, ?_⟩))
 go_ret
 exact ⟨by first | rfl | (simp; done) | (simp [*]; done), by repeat (first | exact Drawn0.refl _ | apply Drawn0.step)⟩
def spec_Sealed.f (k : Nat) (a0 : ByteArray) : Option (ByteArray × Bool) := if (a0.size : Int) > 20000 then (some ((⟨#[]⟩ : ByteArray), false)) else ((spec_SumOf.f k a0).bind fun t139 => ((spec_l02Four.f t139).bind fun t140 => (if a0.size + t140.size ≤ 9223372036854775807 then (some (a0 ++ t140, true)) else (none))))
theorem spec_Sealed.mono : ∀ a0 k, LeO (spec_Sealed.f k a0) (spec_Sealed.f (k + 1) a0) := by
 intro a0 k
 unfold spec_Sealed.f
 repeat' first
   | (with_reducible exact spec_SumOf.mono _ _)
   | (with_reducible exact LeO.refl _)
   | (with_reducible exact LeO.none _)
   | (with_reducible refine LeO.ite ?_ ?_)
   | (with_reducible refine LeO.bind ?_ (fun _ => ?_))
   | exact spec_SumOf.mono _ _
theorem spec_Sealed.calls (k : Nat) (a0 : ByteArray) (r1 : ByteArray) (r2 : Bool) (w : World) (h : spec_Sealed.f k a0 = some (r1, r2)) :
  Calls Try.prog 106 #[.string a0] w fun e w' => e = .returned (.tuple #[.string r1, .bool r2]) ∧ Below w.heap.size w w' := by
 have HB := Aside0.mk (Below.refl w.heap.size w)
 have H : (if (a0.size : Int) > 20000 then (some ((⟨#[]⟩ : ByteArray), false)) else ((spec_SumOf.f k a0).bind fun t139 => ((spec_l02Four.f t139).bind fun t140 => (if a0.size + t140.size ≤ 9223372036854775807 then (some (a0 ++ t140, true)) else (none))))) = some (r1, r2) := h
 clear h
 by_cases c2 : (a0.size : Int) > 20000
 ·rw [if_pos c2] at H
  have c2b0 : decide (20000 < (a0.size : Int)) = true := decide_eq_true c2
  have c2b1 : decide (20000 < a0.size) = true := decide_eq_true (by omega)
  clear c2
  simp only [Option.some.injEq, Prod.mk.injEq] at H
  obtain ⟨rfl, rfl⟩ := H
  go_enter Try.func106, Try.ntmps106
  go_wp2
  go_ret2
  exact ⟨by first | rfl | (simp [errW_none, errW_some] <;> rfl) | (simp [*, errW_none, errW_some] <;> rfl), by repeat (first | (with_reducible first | exact HB.out | apply below_alloc | apply pw_below_drewN | apply below_drew1) | exact HB.out)⟩
 ·rw [if_neg c2] at H
  have c2b0 : decide (20000 < (a0.size : Int)) = false := decide_eq_false c2
  have c2b1 : decide (20000 < a0.size) = false := decide_eq_false (by omega)
  clear c2
  replace H := Option.bind_eq_some_iff.mp H
  obtain ⟨t139, A30, H⟩ := H
  replace H : ((spec_l02Four.f t139).bind fun t140 => (if a0.size + t140.size ≤ 9223372036854775807 then (some (a0 ++ t140, true)) else (none))) = some (r1, r2) := H
  have A3 := Aside0.mk A30
  clear A30
  replace H := Option.bind_eq_some_iff.mp H
  obtain ⟨t140, A40, H⟩ := H
  replace H : (if a0.size + t140.size ≤ 9223372036854775807 then (some (a0 ++ t140, true)) else (none)) = some (r1, r2) := H
  have A4 := Aside0.mk A40
  clear A40
  by_cases c5 : a0.size + t140.size ≤ 9223372036854775807
  ·rw [if_pos c5] at H
   have c5b0 := eq_true c5
   have c5b1 : decide (a0.size + t140.size ≤ 9223372036854775807) = true := decide_eq_true c5
   try have c5b2 : (9223372036854775807 < a0.size + t140.size) = False := eq_false (Nat.not_lt.2 c5)
   simp only [Option.some.injEq, Prod.mk.injEq] at H
   obtain ⟨rfl, rfl⟩ := H
   go_enter Try.func106, Try.ntmps106
   go_wp2_with (first | ((with_reducible refine gate_callee (f := 148) rfl ?_); refine goesL_ (some 9) rfl rfl Try.func148 (by kernel_rfl) rfl #[.string a0] rfl (by (try simp only [List.map_toArray, List.map_cons, List.map_nil]); first | done | rfl | (simp only [List.length_drop, List.length_take]; rfl)) ?_; (with_reducible refine (spec_SumOf.calls k a0 t139 _ A3.out).mono ?_); rintro e w' ⟨rfl, ⟨nd, rfl⟩⟩; refine ⟨_, rfl, ?_⟩) | ((with_reducible refine gate_callee (f := 147) rfl ?_); refine goesL_ (some 10) rfl rfl Try.func147 (by kernel_rfl) rfl #[.int .u32 t139] rfl (by (try simp only [List.map_toArray, List.map_cons, List.map_nil]); first | done | rfl | (simp only [List.length_drop, List.length_take]; rfl)) ?_; (with_reducible refine (spec_l02Four.calls t139 t140 _ A4.out).mono ?_); rintro e w6 ⟨rfl, hb⟩; refine ⟨_, rfl, ?_⟩; have n0_ := Aside0.mk (below_step (by repeat (first | (with_reducible first | exact HB.out | apply below_alloc | apply pw_below_drewN | apply below_drew1) | exact HB.out)) hb); clear HB; have HB := n0_; clear n0_; (try clear hb); (try clear hb2); (try clear hk); (try clear hi)))
   go_ret2
   exact ⟨by first | rfl | (simp [errW_none, errW_some] <;> rfl) | (simp [*, errW_none, errW_some] <;> rfl), by repeat (first | (with_reducible first | exact HB.out | apply below_alloc | apply pw_below_drewN | apply below_drew1) | exact HB.out)⟩
  ·rw [if_neg c5] at H
   exact absurd H (by simp)
def spec_l01Var.l0 : Nat → Int → List Int → Option (ByteArray)
 | 0, _, _ => none
 | k + 1, x0, x3 => if x0 > 127 then (if x3.length < 140737488355328 then (spec_l01Var.l0 k (wrap64 (Int.tdiv x0 128)) (x3 ++ [(wrap64 ((Int.tmod x0 128) + 128)) % 256])) else (none)) else (if x3.length < 140737488355328 then (some (strOfNums (x3 ++ [(x0) % 256]))) else (none))
def spec_l01Var.f (k : Nat) (a0 : Int) : Option (ByteArray) := spec_l01Var.l0 k a0 (([] : List Int))
theorem spec_l01Var.mono_l : ∀ k, (∀ y0 y1, LeO (spec_l01Var.l0 k y0 y1) (spec_l01Var.l0 (k + 1) y0 y1))
 | 0 => fun _ _ r h => by simp [spec_l01Var.l0] at h
 | k + 1 => by
  have ih0 := spec_l01Var.mono_l k
  ·intro y0 y1
   unfold spec_l01Var.l0
   repeat' first
   | (with_reducible exact ih0 _ _)
   | (with_reducible exact LeO.refl _)
   | (with_reducible exact LeO.none _)
   | (with_reducible refine LeO.ite ?_ ?_)
   | (with_reducible refine LeO.bind ?_ (fun _ => ?_))
   | exact ih0 _ _
theorem spec_l01Var.mono : ∀ a0 k, LeO (spec_l01Var.f k a0) (spec_l01Var.f (k + 1) a0) := by
 intro a0 k
 have ih0 := spec_l01Var.mono_l k
 unfold spec_l01Var.f
 repeat' first
   | (with_reducible exact ih0 _ _)
   | (with_reducible exact LeO.refl _)
   | (with_reducible exact LeO.none _)
   | (with_reducible refine LeO.ite ?_ ?_)
   | (with_reducible refine LeO.bind ?_ (fun _ => ?_))
   | exact ih0 _ _
theorem spec_l01Var.calls (k : Nat) (a0 : Int) (r : ByteArray) (w : World) (h : spec_l01Var.f k a0 = some r) :
  Calls Try.prog 139 #[.int .i64 a0] w fun e w' => e = .returned (.string r) ∧ Below w.heap.size w w' := by
 have HB := Aside0.mk (Below.refl w.heap.size w)
 have H : (spec_l01Var.l0 k a0 (([] : List Int))) = some r := h
 clear h
 obtain ⟨y170, hy170⟩ : ∃ y_ : List Int, y_ = (([] : List Int)) := ⟨_, rfl⟩
 replace H : (spec_l01Var.l0 k a0 y170) = some r := by first | (rw [hy170]; with_reducible exact H) | (have H2_ := (Option.bind_some _ _).symm.trans H; rw [hy170]; with_reducible exact H2_) | (have H2_ := (Option.bind_some _ _).symm.trans H; with_reducible exact H2_) | with_reducible exact H | (rw [hy170]; exact H) | exact H
 have Ny170 := Aside0.mk hy170
 clear hy170
 have H' := Aside0.mk H
 clear H
 go_enter Try.func139, Try.ntmps139
 go_wp2_with (first | ((with_reducible refine gate_dst (N := 4) rfl ?_); refine Kd.R_lit (Kd.int .u8) _ 5 ?hg (N := 4) ?hd (xs := ([] : List Int)) (inner := []) (ok := fun _ => True) (okp := fun _ => True) ?hr ?hp (fun _ hk => hk) trivial (Below.refl _ _) (Nat.le_refl _) (by simp) ?_; (case hd => rfl); (case hg => rfl); (case hr => first | (go_simp; done) | (go_simp; rfl)); (case hp => exact (Reps.none _ _)); intro v171 w2 ho3 hb hg_ hnew_; clear hg_ hnew_; (first | rw [← Ny170.out] at ho3 | (simp only [Int.reduceToNat] at ho3; rw [← Ny170.out] at ho3)); have n0_ := Aside0.mk (Kd.R_lower ho3 (below_size (by repeat (first | (with_reducible first | exact HB.out | apply below_alloc | apply pw_below_drewN | apply below_drew1) | exact HB.out)))); have n1_ := Aside0.mk (below_step (by repeat (first | (with_reducible first | exact HB.out | apply below_alloc | apply pw_below_drewN | apply below_drew1) | exact HB.out)) hb); clear HB; have HO172 := n0_; have HB := n1_; clear n0_ n1_; clear hb ho3))
 go_loopg [0, 3] k (fun kq v0 v3 w' => ∃ (x0_1 : Int) (x3_1 : List Int), v0 = .int .i64 x0_1 ∧ Aside0 (spec_l01Var.l0 kq x0_1 x3_1 = some r) ∧ Aside0 (kq ≤ k) ∧ Aside0 (Kd.R (Kd.int .u8) 5 w' w.heap.size (fun _ => True) v3 x3_1) ∧ Aside0 (Below w.heap.size w w'))
 case atStart => exact ⟨(a0), (y170), (by first | rfl | (simp; done) | (simp [*]; done)), H', ⟨Nat.le_refl _⟩, ⟨by (with_reducible repeat (first | apply Kd.R_alloc | apply Kd.R_drewN | apply Kd.R_drew)); exact HO172.out⟩, ⟨by repeat (first | (with_reducible first | exact HB.out | apply below_alloc | apply pw_below_drewN | apply below_drew1) | exact HB.out)⟩⟩
 case round =>
  clear H'
  obtain ⟨x0_1, x3_1, rfl, HA, HK1, HO_3, HB⟩ := hrel
  cases gk with
  | zero => exact absurd HA.out (by simp [spec_l01Var.l0])
  | succ k1 =>
   have H := HA.out
   clear HA
   simp only [spec_l01Var.l0] at H
   by_cases c4 : x0_1 > 127
   ·rw [if_pos c4] at H
    have c4b0 : decide (127 < x0_1) = true := decide_eq_true c4
    clear c4
    by_cases c5 : x3_1.length < 140737488355328
    ·rw [if_pos c5] at H
     have LMc5 := Aside0.mk c5
     clear c5
     obtain ⟨y173, hy173⟩ : ∃ y_ : List Int, y_ = (x3_1 ++ [(wrap64 ((Int.tmod x0_1 128) + 128)) % 256]) := ⟨_, rfl⟩
     replace H : (spec_l01Var.l0 k1 (wrap64 (Int.tdiv x0_1 128)) y173) = some r := by first | (rw [hy173]; with_reducible exact H) | (have H2_ := (Option.bind_some _ _).symm.trans H; rw [hy173]; with_reducible exact H2_) | (have H2_ := (Option.bind_some _ _).symm.trans H; with_reducible exact H2_) | with_reducible exact H | (rw [hy173]; exact H) | exact H
     have Ny173 := Aside0.mk hy173
     clear hy173
     have H' := Aside0.mk H
     clear H
     go_wp2_with (first | ((with_reducible refine gate_builtin (b := .append) (xs := #[.tmp 7, .tmp 12]) rfl ?_); at_builtin; refine Kd.R_append (Kd.int .u8) (w0 := w) w.heap.size rfl (.tmp 7) (.tmp 12) 171 5 (.int .u8 0) 1 rfl Try.underlying171 info5 rfl (by decide) (by omega) u3 x3_1 ((wrap64 ((Int.tmod x0_1 128) + 128)) % 256) [.int .u8 ((wrap64 ((Int.tmod x0_1 128) + 128)) % 256)] (fun _ => True) (fun _ => False) rfl rfl ?aP (fun _ hk => hk.elim) ?aF ?aO ?aB ?aS ?aL ?_; (case aP => exact rfl); (case aB => exact (by repeat (first | (with_reducible first | exact HB.out | apply below_alloc | apply pw_below_drewN | apply below_drew1) | exact HB.out))); (case aF => exact (fun _ _ => trivial)); (case aO => exact (by (with_reducible repeat (first | apply Kd.R_alloc | apply Kd.R_drewN | apply Kd.R_drew)); exact HO_3.out)); (case aS => exact (below_size (by repeat (first | (with_reducible first | exact HB.out | apply below_alloc | apply pw_below_drewN | apply below_drew1) | exact HB.out)))); (case aL => have := LMc5.out; omega); intro v174 w6 ho hb hg hat; rw [← Ny173.out] at ho; have n0_ := Aside0.mk (hb); have n1_ := Aside0.mk (ho); clear HB; clear HO_3; have HB := n0_; have HO175 := n1_; clear n0_ n1_; clear ho hb hg hat))
     go_roundg k1
     case measure => have := HK1.out; omega
     case rel => exact ⟨(wrap64 (Int.tdiv x0_1 128)), (y173), (by first | rfl | (simp; done) | (simp [*]; done)), H', ⟨by have := HK1.out; omega⟩, ⟨by (with_reducible repeat (first | apply Kd.R_alloc | apply Kd.R_drewN | apply Kd.R_drew)); exact HO175.out⟩, ⟨by repeat (first | (with_reducible first | exact HB.out | apply below_alloc | apply pw_below_drewN | apply below_drew1) | exact HB.out)⟩⟩
    ·rw [if_neg c5] at H
     exact absurd H (by simp)
   ·rw [if_neg c4] at H
    have c4b0 : decide (127 < x0_1) = false := decide_eq_false c4
    clear c4
    by_cases c7 : x3_1.length < 140737488355328
    ·rw [if_pos c7] at H
     have LMc7 := Aside0.mk c7
     clear c7
     obtain ⟨y176, hy176⟩ : ∃ y_ : List Int, y_ = (x3_1 ++ [(x0_1) % 256]) := ⟨_, rfl⟩
     replace H : (some (strOfNums y176)) = some r := by first | (rw [hy176]; with_reducible exact H) | (have H2_ := (Option.bind_some _ _).symm.trans H; rw [hy176]; with_reducible exact H2_) | (have H2_ := (Option.bind_some _ _).symm.trans H; with_reducible exact H2_) | with_reducible exact H | (rw [hy176]; exact H) | exact H
     have Ny176 := Aside0.mk hy176
     clear hy176
     obtain rfl := Option.some.inj H
     go_wp2_with (first | ((with_reducible refine gate_builtin (b := .append) (xs := #[.tmp 16, .tmp 19]) rfl ?_); at_builtin; refine Kd.R_append (Kd.int .u8) (w0 := w) w.heap.size rfl (.tmp 16) (.tmp 19) 171 5 (.int .u8 0) 1 rfl Try.underlying171 info5 rfl (by decide) (by omega) u3 x3_1 ((x0_1) % 256) [.int .u8 ((x0_1) % 256)] (fun _ => True) (fun _ => False) rfl rfl ?aP (fun _ hk => hk.elim) ?aF ?aO ?aB ?aS ?aL ?_; (case aP => exact rfl); (case aB => exact (by repeat (first | (with_reducible first | exact HB.out | apply below_alloc | apply pw_below_drewN | apply below_drew1) | exact HB.out))); (case aF => exact (fun _ _ => trivial)); (case aO => exact (by (with_reducible repeat (first | apply Kd.R_alloc | apply Kd.R_drewN | apply Kd.R_drew)); exact HO_3.out)); (case aS => exact (below_size (by repeat (first | (with_reducible first | exact HB.out | apply below_alloc | apply pw_below_drewN | apply below_drew1) | exact HB.out)))); (case aL => have := LMc7.out; omega); intro v177 w8 ho hb hg hat; rw [← Ny176.out] at ho; have n0_ := Aside0.mk (hb); have n1_ := Aside0.mk (ho); clear HB; clear HO_3; have HB := n0_; have HO178 := n1_; clear n0_ n1_; clear ho hb hg hat; have hcv9 := own_string (P := Try.prog) Try.underlying171 Try.underlying5 Try.underlying9 (Kd.own_of_R HO178.out)))
     go_ret
     exact ⟨by first | rfl | (simp [errW_none, errW_some] <;> rfl) | (simp [*, errW_none, errW_some] <;> rfl), by repeat (first | (with_reducible first | exact HB.out | apply below_alloc | apply pw_below_drewN | apply below_drew1) | exact HB.out)⟩
    ·rw [if_neg c7] at H
     exact absurd H (by simp)
mutual
def impl_SumMore.l0 : Nat → Int → ByteArray → Int → Int → Option (Int)
 | 0, _, _, _, _ => none
 | k + 1, x0, x1, x8, x9 => if x9 < x8 then (if 0 ≤ x9 then (if x9 < (x1.size : Int) then (impl_SumMore.l1 k (Go.bits .xor .u32 x0 ((bt x1 x9) % 4294967296)) x1 x8 x9 0) else (none)) else (none)) else (some x0)
def impl_SumMore.l1 : Nat → Int → ByteArray → Int → Int → Int → Option (Int)
 | 0, _, _, _, _, _ => none
 | k + 1, x0, x1, x8, x9, x18 => if x18 < 8 then (if (Go.bits .and .u32 x0 1) = 1 then (impl_SumMore.l1 k (Go.bits .xor .u32 (x0 / 2) 3558460437) x1 x8 x9 (wrap64 (x18 + 1))) else (impl_SumMore.l1 k (x0 / 2) x1 x8 x9 (wrap64 (x18 + 1)))) else (impl_SumMore.l0 k x0 x1 x8 (wrap64 (x9 + 1)))
end
def impl_SumMore.f (k : Nat) (a0 : Int) (a1 : ByteArray) : Option (Int) := impl_SumMore.l0 k a0 a1 (a1.size : Int) 0
theorem impl_SumMore.mono_l : ∀ k, (∀ y0 y1 y2 y3, LeO (impl_SumMore.l0 k y0 y1 y2 y3) (impl_SumMore.l0 (k + 1) y0 y1 y2 y3)) ∧ (∀ y0 y1 y2 y3 y4, LeO (impl_SumMore.l1 k y0 y1 y2 y3 y4) (impl_SumMore.l1 (k + 1) y0 y1 y2 y3 y4))
 | 0 => ⟨fun _ _ _ _ r h => by simp [impl_SumMore.l0] at h, fun _ _ _ _ _ r h => by simp [impl_SumMore.l1] at h⟩
 | k + 1 => by
  obtain ⟨ih0, ih1⟩ := impl_SumMore.mono_l k
  refine ⟨?_, ?_⟩
  ·intro y0 y1 y2 y3
   unfold impl_SumMore.l0
   repeat' first
   | (with_reducible exact ih0 _ _ _ _)
   | (with_reducible exact ih1 _ _ _ _ _)
   | (with_reducible exact LeO.refl _)
   | (with_reducible exact LeO.none _)
   | (with_reducible refine LeO.ite ?_ ?_)
   | (with_reducible refine LeO.bind ?_ (fun _ => ?_))
   | exact ih0 _ _ _ _
   | exact ih1 _ _ _ _ _
  ·intro y0 y1 y2 y3 y4
   unfold impl_SumMore.l1
   repeat' first
   | (with_reducible exact ih0 _ _ _ _)
   | (with_reducible exact ih1 _ _ _ _ _)
   | (with_reducible exact LeO.refl _)
   | (with_reducible exact LeO.none _)
   | (with_reducible refine LeO.ite ?_ ?_)
   | (with_reducible refine LeO.bind ?_ (fun _ => ?_))
   | exact ih0 _ _ _ _
   | exact ih1 _ _ _ _ _
theorem impl_SumMore.mono : ∀ a0 a1 k, LeO (impl_SumMore.f k a0 a1) (impl_SumMore.f (k + 1) a0 a1) := by
 intro a0 a1 k
 obtain ⟨ih0, ih1⟩ := impl_SumMore.mono_l k
 unfold impl_SumMore.f
 repeat' first
   | (with_reducible exact ih0 _ _ _ _)
   | (with_reducible exact ih1 _ _ _ _ _)
   | (with_reducible exact LeO.refl _)
   | (with_reducible exact LeO.none _)
   | (with_reducible refine LeO.ite ?_ ?_)
   | (with_reducible refine LeO.bind ?_ (fun _ => ?_))
   | exact ih0 _ _ _ _
   | exact ih1 _ _ _ _ _
theorem impl_SumMore.calls (k : Nat) (a0 : Int) (a1 : ByteArray) (r : Int) (w : World) (h : impl_SumMore.f k a0 a1 = some r) :
  Calls Try.prog 183 #[.int .u32 a0, .string a1] w fun e w' => e = .returned (.int .u32 r) ∧ Drawn0 w w' := by
 have H : (impl_SumMore.l0 k a0 a1 (a1.size : Int) 0) = some r := h
 clear h
 have H' := Aside0.mk H
 clear H
 go_enter Try.func183, Try.ntmps183
 go_wp2
 go_loopg [0, 9] k (fun kq v0 v9 w' => ∃ (x0_1 : Int) (x9_1 : Int), v0 = .int .u32 x0_1 ∧ v9 = .int .i64 x9_1 ∧ Aside0 (impl_SumMore.l0 kq x0_1 a1 (a1.size : Int) x9_1 = some r) ∧ Aside0 (kq ≤ k) ∧ Drawn0 w w')
 case atStart => exact ⟨(a0), (0), (by first | rfl | (simp; done) | (simp [*]; done)), (by first | rfl | (simp; done) | (simp [*]; done)), H', ⟨Nat.le_refl _⟩, by repeat (first | exact Drawn0.refl _ | apply Drawn0.step)⟩
 case round =>
  clear H'
  obtain ⟨x0_1, x9_1, rfl, rfl, HA, HK1, ⟨m1, rfl⟩⟩ := hrel
  cases gk with
  | zero => exact absurd HA.out (by simp [impl_SumMore.l0])
  | succ k1 =>
   have H := HA.out
   clear HA
   simp only [impl_SumMore.l0] at H
   by_cases c3 : x9_1 < (a1.size : Int)
   ·rw [if_pos c3] at H
    have c3b0 : decide (x9_1 < (a1.size : Int)) = true := decide_eq_true c3
    clear c3
    by_cases c4 : 0 ≤ x9_1
    ·rw [if_pos c4] at H
     have c4b0 : decide (0 ≤ x9_1) = true := decide_eq_true c4
     clear c4
     by_cases c5 : x9_1 < (a1.size : Int)
     ·rw [if_pos c5] at H
      have c5b0 : decide (x9_1 < (a1.size : Int)) = true := decide_eq_true c5
      clear c5
      have H' := Aside0.mk H
      clear H
      have p6 : 0 ≤ (x9_1 : Int) := of_decide_eq_true (by with_reducible assumption)
      have q6 : x9_1 < (a1.size : Int) := of_decide_eq_true (by with_reducible assumption)
      have hx6 := bt_at a1 x9_1
      replace p6 := eq_true p6
      replace q6 := eq_true q6
      go_wp2
      go_loopg [0, 18] k1 (fun kq v0 v18 w' => ∃ (x0_2 : Int) (x18_2 : Int), v0 = .int .u32 x0_2 ∧ v18 = .int .i64 x18_2 ∧ Aside0 (impl_SumMore.l1 kq x0_2 a1 (a1.size : Int) x9_1 x18_2 = some r) ∧ Aside0 (kq ≤ k1) ∧ Drawn0 w w')
      case atStart => exact ⟨(Go.bits .xor .u32 x0_1 ((bt a1 x9_1) % 4294967296)), (0), (by first | rfl | (simp; done) | (simp [*]; done)), (by first | rfl | (simp; done) | (simp [*]; done)), H', ⟨Nat.le_refl _⟩, by repeat (first | exact Drawn0.refl _ | apply Drawn0.step)⟩
      case round =>
       clear H'
       try clear c3
       try clear c3b0
       try clear c4
       try clear c4b0
       try clear c5
       try clear c5b0
       try clear p6
       try clear q6
       try clear hx6
       try clear p6
       try clear q6
       obtain ⟨x0_2, x18_2, rfl, rfl, HA, HK2, ⟨m2, rfl⟩⟩ := hrel
       cases gk with
       | zero => exact absurd HA.out (by simp [impl_SumMore.l1])
       | succ k2 =>
        have H := HA.out
        clear HA
        simp only [impl_SumMore.l1] at H
        by_cases c7 : x18_2 < 8
        ·rw [if_pos c7] at H
         have c7b0 : decide (x18_2 < 8) = true := decide_eq_true c7
         clear c7
         by_cases c8 : (Go.bits .and .u32 x0_2 1) = 1
         ·rw [if_pos c8] at H
          have c8b0 : ((Go.bits .and .u32 x0_2 1) == 1) = true := beq_iff_eq.mpr c8
          have c8b1 : ((Go.bits .and .u32 x0_2 1) != 1) = false := bne_eq_false_iff_eq.mpr c8
          clear c8
          have H' := Aside0.mk H
          clear H
          go_wp2
          go_roundg k2
          case measure => have := HK1.out; have := HK2.out; omega
          case rel => exact ⟨(Go.bits .xor .u32 (x0_2 / 2) 3558460437), (wrap64 (x18_2 + 1)), (by first | rfl | (simp; done) | (simp [*]; done)), (by first | rfl | (simp; done) | (simp [*]; done)), H', ⟨by have := HK1.out; have := HK2.out; omega⟩, by repeat (first | exact Drawn0.refl _ | apply Drawn0.step)⟩
         ·rw [if_neg c8] at H
          have c8b0 : ((Go.bits .and .u32 x0_2 1) == 1) = false := beq_eq_false_iff_ne.mpr c8
          have c8b1 : ((Go.bits .and .u32 x0_2 1) != 1) = true := bne_iff_ne.mpr c8
          have H' := Aside0.mk H
          clear H
          go_wp2
          go_roundg k2
          case measure => have := HK1.out; have := HK2.out; omega
          case rel => exact ⟨(x0_2 / 2), (wrap64 (x18_2 + 1)), (by first | rfl | (simp; done) | (simp [*]; done)), (by first | rfl | (simp; done) | (simp [*]; done)), H', ⟨by have := HK1.out; have := HK2.out; omega⟩, by repeat (first | exact Drawn0.refl _ | apply Drawn0.step)⟩
        ·rw [if_neg c7] at H
         have c7b0 : decide (x18_2 < 8) = false := decide_eq_false c7
         clear c7
         have H' := Aside0.mk H
         clear H
         go_wp2
         go_roundg k2
         case measure => have := HK1.out; have := HK2.out; omega
         case rel => exact ⟨(x0_2), (wrap64 (x9_1 + 1)), (by first | rfl | (simp; done) | (simp [*]; done)), (by first | rfl | (simp; done) | (simp [*]; done)), H', ⟨by have := HK1.out; have := HK2.out; omega⟩, by repeat (first | exact Drawn0.refl _ | apply Drawn0.step)⟩
     ·rw [if_neg c5] at H
      exact absurd H (by simp)
    ·rw [if_neg c4] at H
     exact absurd H (by simp)
   ·rw [if_neg c3] at H
    have c3b0 : decide (x9_1 < (a1.size : Int)) = false := decide_eq_false c3
    clear c3
    obtain rfl := Option.some.inj H
    go_wp2
    go_ret
    exact ⟨by first | rfl | (simp; done) | (simp [*]; done), by repeat (first | exact Drawn0.refl _ | apply Drawn0.step)⟩
def impl_SumOf.f (k : Nat) (a0 : ByteArray) : Option (Int) := (impl_SumMore.f k 4294967295 a0).bind fun t459 => (some t459)
theorem impl_SumOf.mono : ∀ a0 k, LeO (impl_SumOf.f k a0) (impl_SumOf.f (k + 1) a0) := by
 intro a0 k
 unfold impl_SumOf.f
 repeat' first
   | (with_reducible exact impl_SumMore.mono _ _ _)
   | (with_reducible exact LeO.refl _)
   | (with_reducible exact LeO.none _)
   | (with_reducible refine LeO.ite ?_ ?_)
   | (with_reducible refine LeO.bind ?_ (fun _ => ?_))
   | exact impl_SumMore.mono _ _ _
theorem impl_SumOf.calls (k : Nat) (a0 : ByteArray) (r : Int) (w : World) (h : impl_SumOf.f k a0 = some r) :
  Calls Try.prog 172 #[.string a0] w fun e w' => e = .returned (.int .u32 r) ∧ Drawn0 w w' := by
 have H : ((impl_SumMore.f k 4294967295 a0).bind fun t459 => (some t459)) = some r := h
 clear h
 replace H := Option.bind_eq_some_iff.mp H
 obtain ⟨t459, A20, H⟩ := H
 replace H : (some t459) = some r := H
 have A2 := Aside0.mk A20
 clear A20
 obtain rfl := Option.some.inj H
 go_enter Try.func172, Try.ntmps172
 go_wp2_with (first | ((with_reducible refine gate_callee (f := 183) rfl ?_); refine goesL_ (some 4) rfl rfl Try.func183 (by kernel_rfl) rfl #[.int .u32 4294967295, .string a0] rfl (by (try simp only [List.map_toArray, List.map_cons, List.map_nil]); first | done | rfl | (simp only [List.length_drop, List.length_take]; rfl)) ?_; (with_reducible refine (impl_SumMore.calls k 4294967295 a0 t459 _ A2.out).mono ?_); rintro e w' ⟨rfl, ⟨nd, rfl⟩⟩; refine ⟨_, rfl, ?_⟩))
 go_ret
 exact ⟨by first | rfl | (simp; done) | (simp [*]; done), by repeat (first | exact Drawn0.refl _ | apply Drawn0.step)⟩
def impl_seal.f (k : Nat) (a0 : ByteArray) : Option (ByteArray) := (impl_SumOf.f k a0).bind fun t460 => (some (strOfNums (([(t460 / 16777216) % 256, (t460 / 65536) % 256, (t460 / 256) % 256, (t460) % 256] : List Int))))
theorem impl_seal.mono : ∀ a0 k, LeO (impl_seal.f k a0) (impl_seal.f (k + 1) a0) := by
 intro a0 k
 unfold impl_seal.f
 repeat' first
   | (with_reducible exact impl_SumOf.mono _ _)
   | (with_reducible exact LeO.refl _)
   | (with_reducible exact LeO.none _)
   | (with_reducible refine LeO.ite ?_ ?_)
   | (with_reducible refine LeO.bind ?_ (fun _ => ?_))
   | exact impl_SumOf.mono _ _
theorem impl_seal.calls (k : Nat) (a0 : ByteArray) (r : ByteArray) (w : World) (h : impl_seal.f k a0 = some r) :
  Calls Try.prog 145 #[.string a0] w fun e w' => e = .returned (.string r) ∧ Below w.heap.size w w' := by
 have HB := Aside0.mk (Below.refl w.heap.size w)
 have H : ((impl_SumOf.f k a0).bind fun t460 => (some (strOfNums (([(t460 / 16777216) % 256, (t460 / 65536) % 256, (t460 / 256) % 256, (t460) % 256] : List Int))))) = some r := h
 clear h
 replace H := Option.bind_eq_some_iff.mp H
 obtain ⟨t460, A20, H⟩ := H
 replace H : (some (strOfNums (([(t460 / 16777216) % 256, (t460 / 65536) % 256, (t460 / 256) % 256, (t460) % 256] : List Int)))) = some r := H
 have A2 := Aside0.mk A20
 clear A20
 obtain ⟨y461, hy461⟩ : ∃ y_ : List Int, y_ = (([(t460 / 16777216) % 256, (t460 / 65536) % 256, (t460 / 256) % 256, (t460) % 256] : List Int)) := ⟨_, rfl⟩
 replace H : (some (strOfNums y461)) = some r := by first | (rw [hy461]; with_reducible exact H) | (have H2_ := (Option.bind_some _ _).symm.trans H; rw [hy461]; with_reducible exact H2_) | (have H2_ := (Option.bind_some _ _).symm.trans H; with_reducible exact H2_) | with_reducible exact H | (rw [hy461]; exact H) | exact H
 have Ny461 := Aside0.mk hy461
 clear hy461
 obtain rfl := Option.some.inj H
 go_enter Try.func145, Try.ntmps145
 go_wp2_with (first | ((with_reducible refine gate_callee (f := 172) rfl ?_); refine goesL_ (some 5) rfl rfl Try.func172 (by kernel_rfl) rfl #[.string a0] rfl (by (try simp only [List.map_toArray, List.map_cons, List.map_nil]); first | done | rfl | (simp only [List.length_drop, List.length_take]; rfl)) ?_; (with_reducible refine (impl_SumOf.calls k a0 t460 _ A2.out).mono ?_); rintro e w' ⟨rfl, ⟨nd, rfl⟩⟩; refine ⟨_, rfl, ?_⟩) | ((with_reducible refine gate_dst (N := 17) rfl ?_); refine Kd.R_lit (Kd.int .u8) _ 5 ?hg (N := 17) ?hd (xs := ([(t460 / 16777216) % 256, (t460 / 65536) % 256, (t460 / 256) % 256, (t460) % 256] : List Int)) (inner := [.int .u8 ((t460 / 16777216) % 256), .int .u8 ((t460 / 65536) % 256), .int .u8 ((t460 / 256) % 256), .int .u8 ((t460) % 256)]) (ok := fun _ => True) (okp := fun _ => True) ?hr ?hp (fun _ hk => hk) trivial (Below.refl _ _) (Nat.le_refl _) (by simp) ?_; (case hd => rfl); (case hg => rfl); (case hr => first | (go_simp; done) | (go_simp; rfl)); (case hp => exact (Reps.one (show Kd.M (Kd.int .u8) _ _ _ ((t460 / 16777216) % 256) [.int .u8 ((t460 / 16777216) % 256)] from rfl) (Reps.one (show Kd.M (Kd.int .u8) _ _ _ ((t460 / 65536) % 256) [.int .u8 ((t460 / 65536) % 256)] from rfl) (Reps.one (show Kd.M (Kd.int .u8) _ _ _ ((t460 / 256) % 256) [.int .u8 ((t460 / 256) % 256)] from rfl) (Reps.one (show Kd.M (Kd.int .u8) _ _ _ ((t460) % 256) [.int .u8 ((t460) % 256)] from rfl) (Reps.none _ _)))))); intro v462 w3 ho4 hb hg_ hnew_; clear hg_ hnew_; (first | rw [← Ny461.out] at ho4 | (simp only [Int.reduceToNat] at ho4; rw [← Ny461.out] at ho4)); have n0_ := Aside0.mk (Kd.R_lower ho4 (below_size (by repeat (first | (with_reducible first | exact HB.out | apply below_alloc | apply pw_below_drewN | apply below_drew1) | exact HB.out)))); have n1_ := Aside0.mk (below_step (by repeat (first | (with_reducible first | exact HB.out | apply below_alloc | apply pw_below_drewN | apply below_drew1) | exact HB.out)) hb); clear HB; have HO463 := n0_; have HB := n1_; clear n0_ n1_; clear hb ho4; have hcv5 := own_string (P := Try.prog) Try.underlying171 Try.underlying5 Try.underlying9 (Kd.own_of_R HO463.out)))
 go_ret
 exact ⟨by first | rfl | (simp [errW_none, errW_some] <;> rfl) | (simp [*, errW_none, errW_some] <;> rfl), by repeat (first | (with_reducible first | exact HB.out | apply below_alloc | apply pw_below_drewN | apply below_drew1) | exact HB.out)⟩
def impl_varText.l0 : Nat → Int → List Int → Option (ByteArray)
 | 0, _, _ => none
 | k + 1, x0, x3 => if x0 > 127 then (if x3.length < 140737488355328 then (impl_varText.l0 k (x0 / 128) (x3 ++ [(Go.bits .or .i64 (Go.bits .and .i64 x0 127) 128) % 256])) else (none)) else (if x3.length < 140737488355328 then (some (strOfNums (x3 ++ [(x0) % 256]))) else (none))
def impl_varText.f (k : Nat) (a0 : Int) : Option (ByteArray) := impl_varText.l0 k a0 (([] : List Int))
theorem impl_varText.mono_l : ∀ k, (∀ y0 y1, LeO (impl_varText.l0 k y0 y1) (impl_varText.l0 (k + 1) y0 y1))
 | 0 => fun _ _ r h => by simp [impl_varText.l0] at h
 | k + 1 => by
  have ih0 := impl_varText.mono_l k
  ·intro y0 y1
   unfold impl_varText.l0
   repeat' first
   | (with_reducible exact ih0 _ _)
   | (with_reducible exact LeO.refl _)
   | (with_reducible exact LeO.none _)
   | (with_reducible refine LeO.ite ?_ ?_)
   | (with_reducible refine LeO.bind ?_ (fun _ => ?_))
   | exact ih0 _ _
theorem impl_varText.mono : ∀ a0 k, LeO (impl_varText.f k a0) (impl_varText.f (k + 1) a0) := by
 intro a0 k
 have ih0 := impl_varText.mono_l k
 unfold impl_varText.f
 repeat' first
   | (with_reducible exact ih0 _ _)
   | (with_reducible exact LeO.refl _)
   | (with_reducible exact LeO.none _)
   | (with_reducible refine LeO.ite ?_ ?_)
   | (with_reducible refine LeO.bind ?_ (fun _ => ?_))
   | exact ih0 _ _
theorem impl_varText.calls (k : Nat) (a0 : Int) (r : ByteArray) (w : World) (h : impl_varText.f k a0 = some r) :
  Calls Try.prog 110 #[.int .i64 a0] w fun e w' => e = .returned (.string r) ∧ Below w.heap.size w w' := by
 have HB := Aside0.mk (Below.refl w.heap.size w)
 have H : (impl_varText.l0 k a0 (([] : List Int))) = some r := h
 clear h
 obtain ⟨y426, hy426⟩ : ∃ y_ : List Int, y_ = (([] : List Int)) := ⟨_, rfl⟩
 replace H : (impl_varText.l0 k a0 y426) = some r := by first | (rw [hy426]; with_reducible exact H) | (have H2_ := (Option.bind_some _ _).symm.trans H; rw [hy426]; with_reducible exact H2_) | (have H2_ := (Option.bind_some _ _).symm.trans H; with_reducible exact H2_) | with_reducible exact H | (rw [hy426]; exact H) | exact H
 have Ny426 := Aside0.mk hy426
 clear hy426
 have H' := Aside0.mk H
 clear H
 go_enter Try.func110, Try.ntmps110
 go_wp2_with (first | ((with_reducible refine gate_dst (N := 4) rfl ?_); refine Kd.R_lit (Kd.int .u8) _ 5 ?hg (N := 4) ?hd (xs := ([] : List Int)) (inner := []) (ok := fun _ => True) (okp := fun _ => True) ?hr ?hp (fun _ hk => hk) trivial (Below.refl _ _) (Nat.le_refl _) (by simp) ?_; (case hd => rfl); (case hg => rfl); (case hr => first | (go_simp; done) | (go_simp; rfl)); (case hp => exact (Reps.none _ _)); intro v427 w2 ho3 hb hg_ hnew_; clear hg_ hnew_; (first | rw [← Ny426.out] at ho3 | (simp only [Int.reduceToNat] at ho3; rw [← Ny426.out] at ho3)); have n0_ := Aside0.mk (Kd.R_lower ho3 (below_size (by repeat (first | (with_reducible first | exact HB.out | apply below_alloc | apply pw_below_drewN | apply below_drew1) | exact HB.out)))); have n1_ := Aside0.mk (below_step (by repeat (first | (with_reducible first | exact HB.out | apply below_alloc | apply pw_below_drewN | apply below_drew1) | exact HB.out)) hb); clear HB; have HO428 := n0_; have HB := n1_; clear n0_ n1_; clear hb ho3))
 go_loopg [0, 3] k (fun kq v0 v3 w' => ∃ (x0_1 : Int) (x3_1 : List Int), v0 = .int .i64 x0_1 ∧ Aside0 (impl_varText.l0 kq x0_1 x3_1 = some r) ∧ Aside0 (kq ≤ k) ∧ Aside0 (Kd.R (Kd.int .u8) 5 w' w.heap.size (fun _ => True) v3 x3_1) ∧ Aside0 (Below w.heap.size w w'))
 case atStart => exact ⟨(a0), (y426), (by first | rfl | (simp; done) | (simp [*]; done)), H', ⟨Nat.le_refl _⟩, ⟨by (with_reducible repeat (first | apply Kd.R_alloc | apply Kd.R_drewN | apply Kd.R_drew)); exact HO428.out⟩, ⟨by repeat (first | (with_reducible first | exact HB.out | apply below_alloc | apply pw_below_drewN | apply below_drew1) | exact HB.out)⟩⟩
 case round =>
  clear H'
  obtain ⟨x0_1, x3_1, rfl, HA, HK1, HO_3, HB⟩ := hrel
  cases gk with
  | zero => exact absurd HA.out (by simp [impl_varText.l0])
  | succ k1 =>
   have H := HA.out
   clear HA
   simp only [impl_varText.l0] at H
   by_cases c4 : x0_1 > 127
   ·rw [if_pos c4] at H
    have c4b0 : decide (127 < x0_1) = true := decide_eq_true c4
    clear c4
    by_cases c5 : x3_1.length < 140737488355328
    ·rw [if_pos c5] at H
     have LMc5 := Aside0.mk c5
     clear c5
     obtain ⟨y429, hy429⟩ : ∃ y_ : List Int, y_ = (x3_1 ++ [(Go.bits .or .i64 (Go.bits .and .i64 x0_1 127) 128) % 256]) := ⟨_, rfl⟩
     replace H : (impl_varText.l0 k1 (x0_1 / 128) y429) = some r := by first | (rw [hy429]; with_reducible exact H) | (have H2_ := (Option.bind_some _ _).symm.trans H; rw [hy429]; with_reducible exact H2_) | (have H2_ := (Option.bind_some _ _).symm.trans H; with_reducible exact H2_) | with_reducible exact H | (rw [hy429]; exact H) | exact H
     have Ny429 := Aside0.mk hy429
     clear hy429
     have H' := Aside0.mk H
     clear H
     go_wp2_with (first | ((with_reducible refine gate_builtin (b := .append) (xs := #[.tmp 7, .tmp 12]) rfl ?_); at_builtin; refine Kd.R_append (Kd.int .u8) (w0 := w) w.heap.size rfl (.tmp 7) (.tmp 12) 171 5 (.int .u8 0) 1 rfl Try.underlying171 info5 rfl (by decide) (by omega) u3 x3_1 ((Go.bits .or .i64 (Go.bits .and .i64 x0_1 127) 128) % 256) [.int .u8 ((Go.bits .or .i64 (Go.bits .and .i64 x0_1 127) 128) % 256)] (fun _ => True) (fun _ => False) rfl rfl ?aP (fun _ hk => hk.elim) ?aF ?aO ?aB ?aS ?aL ?_; (case aP => exact rfl); (case aB => exact (by repeat (first | (with_reducible first | exact HB.out | apply below_alloc | apply pw_below_drewN | apply below_drew1) | exact HB.out))); (case aF => exact (fun _ _ => trivial)); (case aO => exact (by (with_reducible repeat (first | apply Kd.R_alloc | apply Kd.R_drewN | apply Kd.R_drew)); exact HO_3.out)); (case aS => exact (below_size (by repeat (first | (with_reducible first | exact HB.out | apply below_alloc | apply pw_below_drewN | apply below_drew1) | exact HB.out)))); (case aL => have := LMc5.out; omega); intro v430 w6 ho hb hg hat; rw [← Ny429.out] at ho; have n0_ := Aside0.mk (hb); have n1_ := Aside0.mk (ho); clear HB; clear HO_3; have HB := n0_; have HO431 := n1_; clear n0_ n1_; clear ho hb hg hat))
     go_roundg k1
     case measure => have := HK1.out; omega
     case rel => exact ⟨(x0_1 / 128), (y429), (by first | rfl | (simp; done) | (simp [*]; done)), H', ⟨by have := HK1.out; omega⟩, ⟨by (with_reducible repeat (first | apply Kd.R_alloc | apply Kd.R_drewN | apply Kd.R_drew)); exact HO431.out⟩, ⟨by repeat (first | (with_reducible first | exact HB.out | apply below_alloc | apply pw_below_drewN | apply below_drew1) | exact HB.out)⟩⟩
    ·rw [if_neg c5] at H
     exact absurd H (by simp)
   ·rw [if_neg c4] at H
    have c4b0 : decide (127 < x0_1) = false := decide_eq_false c4
    clear c4
    by_cases c7 : x3_1.length < 140737488355328
    ·rw [if_pos c7] at H
     have LMc7 := Aside0.mk c7
     clear c7
     obtain ⟨y432, hy432⟩ : ∃ y_ : List Int, y_ = (x3_1 ++ [(x0_1) % 256]) := ⟨_, rfl⟩
     replace H : (some (strOfNums y432)) = some r := by first | (rw [hy432]; with_reducible exact H) | (have H2_ := (Option.bind_some _ _).symm.trans H; rw [hy432]; with_reducible exact H2_) | (have H2_ := (Option.bind_some _ _).symm.trans H; with_reducible exact H2_) | with_reducible exact H | (rw [hy432]; exact H) | exact H
     have Ny432 := Aside0.mk hy432
     clear hy432
     obtain rfl := Option.some.inj H
     go_wp2_with (first | ((with_reducible refine gate_builtin (b := .append) (xs := #[.tmp 16, .tmp 19]) rfl ?_); at_builtin; refine Kd.R_append (Kd.int .u8) (w0 := w) w.heap.size rfl (.tmp 16) (.tmp 19) 171 5 (.int .u8 0) 1 rfl Try.underlying171 info5 rfl (by decide) (by omega) u3 x3_1 ((x0_1) % 256) [.int .u8 ((x0_1) % 256)] (fun _ => True) (fun _ => False) rfl rfl ?aP (fun _ hk => hk.elim) ?aF ?aO ?aB ?aS ?aL ?_; (case aP => exact rfl); (case aB => exact (by repeat (first | (with_reducible first | exact HB.out | apply below_alloc | apply pw_below_drewN | apply below_drew1) | exact HB.out))); (case aF => exact (fun _ _ => trivial)); (case aO => exact (by (with_reducible repeat (first | apply Kd.R_alloc | apply Kd.R_drewN | apply Kd.R_drew)); exact HO_3.out)); (case aS => exact (below_size (by repeat (first | (with_reducible first | exact HB.out | apply below_alloc | apply pw_below_drewN | apply below_drew1) | exact HB.out)))); (case aL => have := LMc7.out; omega); intro v433 w8 ho hb hg hat; rw [← Ny432.out] at ho; have n0_ := Aside0.mk (hb); have n1_ := Aside0.mk (ho); clear HB; clear HO_3; have HB := n0_; have HO434 := n1_; clear n0_ n1_; clear ho hb hg hat; have hcv9 := own_string (P := Try.prog) Try.underlying171 Try.underlying5 Try.underlying9 (Kd.own_of_R HO434.out)))
     go_ret
     exact ⟨by first | rfl | (simp [errW_none, errW_some] <;> rfl) | (simp [*, errW_none, errW_some] <;> rfl), by repeat (first | (with_reducible first | exact HB.out | apply below_alloc | apply pw_below_drewN | apply below_drew1) | exact HB.out)⟩
    ·rw [if_neg c7] at H
     exact absurd H (by simp)
structure TxF (k : Nat) (vt : Int → ByteArray) (sl : ByteArray → ByteArray) : Prop where
 vS : ∀ n : Int, 0 ≤ n → n ≤ 100000 → spec_l01Var.f k n = some (vt n)
 vI : ∀ n : Int, 0 ≤ n → n ≤ 100000 → impl_varText.f k n = some (vt n)
 vz : ∀ n : Int, (vt n).size ≤ 8
 sS : ∀ s : ByteArray, s.size ≤ 20000 → spec_Sealed.f k s = some (s ++ sl s, true)
 sI : ∀ s : ByteArray, s.size ≤ 20000 → impl_seal.f k s = some (sl s)
 sz : ∀ s, (sl s).size = 4
section
variable (vt : Int → ByteArray) (sl : ByteArray → ByteArray)
def pacc (s : ByteArray) (ps : List Int) : ByteArray := ps.foldl (fun s p => s ++ vt p) s
def facc (s : ByteArray) (fs : List S122) : ByteArray := fs.foldl (fun s f => pacc vt (s ++ vt f.f0 ++ vt (f.f1.length : Int)) f.f1) s
def mhead (x : S53) : ByteArray := vt x.f0 ++ vt x.f1 ++ vt x.f2 ++ vt (x.f3.length : Int)
def mbody (x : S53) : ByteArray := facc vt (mhead vt x) x.f3
def MTxt (x : S53) (t : ByteArray) (ok : Bool) : Prop := (¬ MOk x ∧ t = ⟨#[]⟩ ∧ ok = false) ∨ (MOk x ∧ 240 < (mbody vt x ++ sl (mbody vt x)).size ∧ t = ⟨#[]⟩ ∧ ok = false) ∨ (MOk x ∧ (mbody vt x ++ sl (mbody vt x)).size ≤ 240 ∧ t = mbody vt x ++ sl (mbody vt x) ∧ ok = true)
end
section
variable {vt : Int → ByteArray} {sl : ByteArray → ByteArray} {k : Nat}
theorem pacc_succ {ps : List Int} {i : Nat} {p : Int} {s : ByteArray} (h : ps[i]? = some p) : pacc vt s (ps.take (i + 1)) = pacc vt s (ps.take i) ++ vt p := by
 obtain ⟨hi, rfl⟩ := List.getElem?_eq_some_iff.1 h
 unfold pacc
 rw [List.take_succ_eq_append_getElem hi, List.foldl_append]
 rfl
theorem facc_succ {fs : List S122} {i : Nat} {f : S122} {s : ByteArray} (h : fs[i]? = some f) : facc vt s (fs.take (i + 1)) = pacc vt (facc vt s (fs.take i) ++ vt f.f0 ++ vt (f.f1.length : Int)) f.f1 := by
 obtain ⟨hi, rfl⟩ := List.getElem?_eq_some_iff.1 h
 unfold facc
 rw [List.take_succ_eq_append_getElem hi, List.foldl_append]
 rfl
theorem pacc_size (V : ∀ n : Int, (vt n).size ≤ 8) (s : ByteArray) : ∀ ps : List Int, (pacc vt s ps).size ≤ s.size + 8 * ps.length := by
 intro ps
 induction ps generalizing s with
 | nil => simp [pacc]
 | cons p ps ih =>
  have := ih (s ++ vt p)
  have := V p
  rw [ByteArray.size_append] at *
  simp only [pacc, List.foldl_cons, List.length_cons] at *
  omega
theorem facc_size (V : ∀ n : Int, (vt n).size ≤ 8) (s : ByteArray) : ∀ fs : List S122, (∀ f ∈ fs, f.f1.length ≤ 40) → (facc vt s fs).size ≤ s.size + 336 * fs.length := by
 intro fs
 induction fs generalizing s with
 | nil => simp [facc]
 | cons f fs ih =>
  intro h
  have h1 := ih (pacc vt (s ++ vt f.f0 ++ vt (f.f1.length : Int)) f.f1) (fun g hg => h g (List.mem_cons_of_mem _ hg))
  have h2 := pacc_size V (s ++ vt f.f0 ++ vt (f.f1.length : Int)) f.f1
  have := V f.f0
  have := V (f.f1.length : Int)
  have := h f List.mem_cons_self
  rw [ByteArray.size_append, ByteArray.size_append] at h2
  show (facc vt _ fs).size ≤ _
  simp only [List.length_cons]
  omega
theorem mhead_size (V : ∀ n : Int, (vt n).size ≤ 8) (x : S53) : (mhead vt x).size ≤ 32 := by
 unfold mhead
 have := V x.f0
 have := V x.f1
 have := V x.f2
 have := V (x.f3.length : Int)
 simp only [ByteArray.size_append]
 omega
theorem MOk.f0 {x : S53} (h : MOk x) : 0 ≤ x.f0 ∧ x.f0 ≤ 100000 := h.1.1
theorem MOk.f1 {x : S53} (h : MOk x) : 0 ≤ x.f1 ∧ x.f1 ≤ 100000 := by
 obtain ⟨⟨-, h2, h1, -⟩, -⟩ := h
 rcases h1 with h1 | h1 <;> omega
theorem MOk.f2 {x : S53} (h : MOk x) : 0 ≤ x.f2 ∧ x.f2 ≤ 100000 := by
 have := h.1.2.1
 omega
theorem MOk.len {x : S53} (h : MOk x) : x.f3.length ≤ 20 := h.1.2.2.2
theorem MOk.fr {x : S53} (h : MOk x) {i : Nat} {f : S122} (hi : x.f3[i]? = some f) : (0 ≤ f.f0 ∧ f.f0 ≤ 100000) ∧ f.f1.length ≤ 40 ∧ ∀ (j : Nat) (p : Int), f.f1[j]? = some p → 0 ≤ p ∧ p ≤ 100000 := by
 obtain ⟨h1, h2⟩ := h.2 i f hi
 have := h.f0
 have := h1.1
 have := h.1.2.1
 refine ⟨by omega, h1.2.2.2, fun j p hp => ?_⟩
 have := (h2 j p hp).1
 omega
theorem MOk.le40 {x : S53} (h : MOk x) : ∀ f ∈ x.f3, f.f1.length ≤ 40 := fun f hf => by
 obtain ⟨i, hi, rfl⟩ := List.getElem_of_mem hf
 exact (h.fr (List.getElem?_eq_getElem hi)).2.1
theorem varS (T : TxF k vt sl) (n : Int) (h0 : 0 ≤ n) (h1 : n ≤ 100000) (w : World) : Calls Try.prog 139 #[.int .i64 n] w fun e w' => e = .returned (.string (vt n)) ∧ Below w.heap.size w w' := spec_l01Var.calls k n _ w (T.vS n h0 h1)
theorem varI (T : TxF k vt sl) (n : Int) (h0 : 0 ≤ n) (h1 : n ≤ 100000) (w : World) : Calls Try.prog 110 #[.int .i64 n] w fun e w' => e = .returned (.string (vt n)) ∧ Below w.heap.size w w' := impl_varText.calls k n _ w (T.vI n h0 h1)
end
theorem rt2 {a b : ByteArray} {o : Bool} (h : a = b) : Ending.returned (.tuple #[.string a, .bool o]) = .returned (.tuple #[.string b, .bool o]) := by rw [h]
structure BoxAt (w w' : World) (cs : List Value) : Prop where
 box : w'.heap[w.heap.size]? = some (.cells cs.toArray 53 (0, 0))
 bel : Below w.heap.size w w'
theorem BoxAt.step {w w' w2 : World} {cs : List Value} (h : BoxAt w w' cs) (hb : Below w'.heap.size w' w2) : BoxAt w w2 cs := ⟨blk_below h.box hb, below_step h.bel hb⟩
end Go.Proofs.Ytonhdiemjgdcnaa.PFnExactGivePage
