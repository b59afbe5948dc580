import Derived.Test.YtonhdiemjgdcnaaRD7
set_option maxHeartbeats 64000000
set_option maxRecDepth 100000
set_option linter.unusedVariables false
set_option linter.unusedSimpArgs false
namespace Go.Proofs.Ytonhdiemjgdcnaa.PFnExactGivePage
open Go.RowKit Go.Proofs.YtonhdiemjgdcnaaW.PrintWords Go.Proofs.YtonhdiemjgdcnaaW.PrintLast Go.Proofs.YtonhdiemjgdcnaaW.PrintMore
attribute [local go_sem] max2_int min2_int max_two min_two max_three min_three max_four min_four
theorem el_M {W : World} {base : Nat} {el : S118} {d : List Value} {q : Nat → Prop} (h : k53.M W base q el.f1 d) : k118.M W base (fun k => False ∨ q k) el ([.int .i64 el.f0] ++ d) :=
 ⟨[.int .i64 el.f0], d, rfl, rfl, k53.M_mono (fun k hk => .inr hk) h⟩
def l11Copy_o_T1 : Bool × List (List Nat × List Nat) := (true, [([], []), ([0], [0]), ([1], [1]), ([], []), ([3], [3]), ([4, 2], [4]), ([], []), ([6], [6]), ([2, 5, 7], [2, 5, 7]), ([8, 5, 0, 1, 2, 3, 4, 5, 6, 7, 8], [8])])
def l11Copy_o_B1 : List Nat := [0, 1, 3, 0, 8, 31, 0, 64, 255, 511]
theorem l11Copy_o_ok1_0 : regT (opsOf Try.f132 1) l11Copy_o_T1 l11Copy_o_B1 [] (.p 0 (.t 1 (.p 3 (.t 4 (.p 6 (.t 7 (.e 2 (.e 5 (.p 8 (.e 9 .d)))))))))) = true := by kernel_rfl
theorem l11Copy_o (x : S53) (l0 : List ByteArray) (l1 : List S135) (l2 : Int) (l3 l4 l5 : List Int) (n : Int) {cs : List Value} (w : World) (h : kTxn.K w (x, (l0, l1, l2, l3, l4, l5), n) cs) (f1 : SmallM x) (f2 : ((l0.length ≤ 2000000 ∧ l1.length ≤ 2000000) ∧ l3.length ≤ 2000000 ∧ l4.length ≤ 2000000 ∧ l5.length ≤ 2000000)) :
  Calls Try.prog 132 #[.agg cs.toArray] w fun e w' => ∃ ds : List Value, e = .returned (.agg ds.toArray) ∧ kTxn.M w' w.heap.size (Fr w w') (x, (l0, l1, l2, l3, l4, l5), n) ds ∧ Below w.heap.size w w' := by
 obtain ⟨cM, _, rfl, hM, cW, cI, rfl, hW, hI⟩ := h
 obtain rfl : cI = [.int .i64 n] := hI
 obtain ⟨cs, hcs⟩ : ∃ cs, cs = cM ++ (cW ++ [.int .i64 n]) := ⟨_, rfl⟩
 rw [← hcs]
 have Ecs := Aside0.mk hcs
 have KM := Aside0.mk hM
 have KW := Aside0.mk hW
 have LM := Aside0.mk (show cM.length = 4 from k53.K_len hM)
 have LW := Aside0.mk (show cW.length = 6 from kWork.K_len hW)
 have Lcs := Aside0.mk (show cs.length = 11 from by rw [hcs]; simp only [List.length_append, LM.out, LW.out, List.length_cons, List.length_nil])
 have F1 := Aside0.mk f1
 have F2 := Aside0.mk f2
 clear hM hW f1 f2 hcs
 have O := Aside0.mk (Nat.le_refl w.heap.size)
 have E := Aside0.mk (Env.start w)
 go_enter Try.func132, Try.ntmps132
 go_upto_region 1 with (fail)
 replace O := Aside0.mk (And.intro E.out.le O.out)
 replace E := Aside0.mk (E.out.alloc cs 56 (g := w.heap.size) rfl)
 replace E := Aside0.mk (E.out.alloc Z56 56 (g := (w.heap.size + 1)) (by simp))
 replace E := Aside0.mk E.out.drew
 refine tre_start l11Copy_o_ok1_0 (S := fun w' => w'.heap[w.heap.size]? = some (.cells (cs : List Value).toArray 56 (0, 0)) ∧ True) (by kernel_rfl) (fun _ _ _ _ h => h) ⟨(E.out.box 1 rfl), trivial⟩ (fun hHeld => ?_)
 generalize hq : World.drew _ = w1_ at hHeld ⊢; replace E := E.out.to hq; clear hq
 (refine tre_p (v := ?_) (a' := ?_) rfl rfl (Or.inl ⟨by rfl, ?_⟩) ?_ ?_; rotate_left; (· intro w'; go_simp; with_reducible rfl); rotate_left; (· show Act.put _ (some _) _ = _; simp only [Act.put, s_A, s_0, s_1, i64_w]; try rfl))
 refine tre_loadpart (a' := ?ax2_) rfl rfl (by rfl) 53 _ rfl w.heap.size 0 [] cM (cW ++ [.int .i64 n]) _ rfl (fun w' hs => hs.1) (by rw [Ecs.out]; first | done | rfl | (simp only [aA, aN, aL]; first | done | rfl)) (rfl) Try.underlying53 rfl (by rw [LM.out]; kernel_rfl) ?px2_ ?kx2_
 case px2_ => (show Act.put _ (some _) _ = _; simp only [Act.put, s_A, s_0, s_1, i64_w]; try rfl)
 (refine tre_p (v := ?_) (a' := ?_) rfl rfl (Or.inl ⟨by rfl, ?_⟩) ?_ ?_; rotate_left; (· intro w'; go_simp; with_reducible rfl); rotate_left; (· show Act.put _ (some _) _ = _; simp only [Act.put, s_A, s_0, s_1, i64_w]; try rfl))
 refine tre_loadpart (a' := ?ax3_) rfl rfl (by rfl) 34 _ rfl w.heap.size 4 cM cW [.int .i64 n] _ rfl (fun w' hs => hs.1) (by rw [Ecs.out]; first | done | rfl | (simp only [aA, aN, aL]; first | done | rfl)) (LM.out) Try.underlying34 rfl (by rw [LW.out]; kernel_rfl) ?px3_ ?kx3_
 case px3_ => (show Act.put _ (some _) _ = _; simp only [Act.put, s_A, s_0, s_1, i64_w]; try rfl)
 (refine tre_p (v := ?_) (a' := ?_) rfl rfl (Or.inl ⟨by rfl, ?_⟩) ?_ ?_; rotate_left; (· intro w'; go_simp; with_reducible rfl); rotate_left; (· show Act.put _ (some _) _ = _; simp only [Act.put, s_A, s_0, s_1, i64_w]; try rfl))
 refine tre_loadcell (a' := ?ax4_) rfl rfl (by rfl) 3 _ rfl w.heap.size 10 (cM ++ cW) (.int .i64 n) [] _ rfl (fun w' hs => hs.1) (by rw [Ecs.out]; first | done | rfl | (simp only [aA, aN, aL]; first | done | rfl)) (by simp only [List.length_append, List.length_cons, List.length_nil, LM.out, LW.out]) Try.underlying3 rfl ?px4_ ?kx4_
 case px4_ => (show Act.put _ (some _) _ = _; simp only [Act.put, s_A, s_0, s_1, i64_w]; try rfl)
 refine tre_e rfl (ev1_call rfl Try.func87 (by kernel_rfl) rfl #[.agg cM.toArray] (by rfl) rfl (by (try simp only [List.map_toArray, List.map_cons, List.map_nil]); first | done | rfl) ?_)
 with_reducible refine (l06Copy_o x x _ (E.out.K KM.out) ⟨rfl, F1.out⟩).mono ?_
 rintro e w5_ ⟨d6_, rfl, Md6_, hb⟩
 have q := E.out.made4 O.out 4 rfl Md6_ hb; clear O E Md6_ hb; obtain ⟨n7_, m8_, Ld6_, Od6_, O, E⟩ := q
 refine ⟨_, rfl, ⟨(E.out.box 2 rfl), trivial⟩, (fun hHeld => ?_)⟩
 refine tre_norm (a' := ?_) ?_ ?_; rotate_left; (· show Act.put _ (some 5) _ = _; simp only [Act.put, s_A, s_0, s_1, i64_w]; try rfl)
 refine tre_e rfl (ev1_call rfl Try.func47 (by kernel_rfl) rfl #[.agg cW.toArray] (by rfl) rfl (by (try simp only [List.map_toArray, List.map_cons, List.map_nil]); first | done | rfl) ?_)
 with_reducible refine (l08Copy_n l0 l1 l2 l3 l4 l5 _ (E.out.K KW.out) F2.out).mono ?_
 rintro e w9_ ⟨d10_, rfl, Md10_, hb⟩
 have q := E.out.made4 O.out 6 rfl Md10_ hb; clear O E Md10_ hb; obtain ⟨n11_, m12_, Ld10_, Od10_, O, E⟩ := q
 refine ⟨_, rfl, ⟨(E.out.box 3 rfl), trivial⟩, (fun hHeld => ?_)⟩
 refine tre_norm (a' := ?_) ?_ ?_; rotate_left; (· show Act.put _ (some 8) _ = _; simp only [Act.put, s_A, s_0, s_1, i64_w]; try rfl)
 obtain ⟨c13_, Ec13_, Lc13_, Oc13_⟩ := lump_ (d6_ ++ (d10_ ++ [.int .i64 n])) 11 (by simp only [List.length_append, List.length_cons, List.length_nil, Ld10_.out, Ld6_.out]) (ones_app Od6_.out (ones_app Od10_.out (ones1 rfl)))
 refine tre_p (v := .agg c13_.toArray) (a' := ?_) rfl rfl (Or.inl ⟨by rfl, run_build 56 _ rfl Z56 (fun w => by kernel_rfl) _ Try.underlying56 #[(0, 4), (4, 6), (10, 1)] (fun w => by kernel_rfl) [(0, .agg d6_.toArray), (1, .agg d10_.toArray), (2, .int .i64 n)] (by first | rfl | (simp only [List.map_toArray, List.map_cons, List.map_nil]; rfl)) c13_ (by rw [Ec13_.out]; refine fill_seg (new := d6_) (pre := []) (mid := [.int .i64 0, .int .i64 0, .int .i64 0, .slice none 0 0]) (post := [.slice none 0 0, .slice none 0 0, .int .i64 0, .slice none 0 0, .slice none 0 0, .slice none 0 0, .int .i64 0]) rfl (by first | rfl | (simp only [aA, aN, aL]; first | done | rfl)) (by show some (0, 4) = some (_, _); rw [show (d6_ : List Value).length = 4 from Ld6_.out]; first | done | rfl) (by rw [Ld6_.out]; rfl) ?_; refine fill_seg (new := d10_) (pre := d6_) (mid := [.slice none 0 0, .slice none 0 0, .int .i64 0, .slice none 0 0, .slice none 0 0, .slice none 0 0]) (post := [.int .i64 0]) rfl (by first | rfl | (simp only [aA, aN, aL]; first | done | rfl)) (by show some (4, 6) = some (_, _); rw [show (d6_ : List Value).length = 4 from Ld6_.out, show (d10_ : List Value).length = 6 from Ld10_.out]; first | done | rfl) (by rw [Ld10_.out]; rfl) ?_; refine fill_seg (new := [.int .i64 n]) (pre := (d6_ ++ d10_)) (mid := [.int .i64 0]) (post := []) rfl (by first | rfl | (simp only [aA, aN, aL]; first | done | rfl)) (by show some (10, 1) = some (_, _); rw [show ((d6_ ++ d10_) : List Value).length = 10 from by simp only [List.length_append, List.length_cons, List.length_nil, Ld10_.out, Ld6_.out]]; first | done | rfl) (rfl) ?_; first | rfl | simp only [Instr.fill, aA, aN, aL])⟩) ?_ ?_; rotate_left; (· show Act.put _ (some _) _ = _; simp only [Act.put, s_A, s_0, s_1, i64_w]; try rfl)
 refine tre_e rfl (ev1_storepart rfl (by rfl) 56 _ _ rfl (w.heap.size + 1) 0 c13_ [] Z56 [] rfl rfl (E.out.box 2 rfl) (by first | rfl | (simp only [aA, aN, aL]; first | done | rfl)) (rfl) (by rw [Lc13_.out]; rfl) (by rw [Lc13_.out]; kernel_rfl) Oc13_.out (fun W14_ hp hn => ?_))
 replace E := E.out.put2 2 hp hn (by have o := O.out; dsimp only [Off, OffA, Fct.box, Fct.made, List.set]; and_intros <;> first | trivial | omega); clear hp hn
 refine ⟨⟨(E.out.box 3 rfl), trivial⟩, (fun hHeld => ?_)⟩
 refine tre_done ?_
 clear hHeld
 go_wp2_with fail
 have BX := Aside0.mk (show _ = some (Obj.cells (c13_ : List Value).toArray 56 (0, 0)) from by first | exact (E.out.box 2 rfl) | simpa only [aA, aN, aL] using (E.out.box 2 rfl))
 refine bodyPost_ret (oresults_c rfl _ _ (w.heap.size + 1) 56 _ _ _ rfl BX.out Try.underlying56 rfl (by rw [List.size_toArray, show (c13_ : List Value).length = 11 from Lc13_.out]; kernel_rfl)) rfl ?_
 exact ⟨_, rfl, (by rw [Ec13_.out]; exact fresh (d := kTxn) (comb (E.out.made 1 rfl) (comb (E.out.made 0 rfl) Mint (fun k h1 h2 => by have o := O.out; (try simp only [Iv, true_and, or_false, false_or] at h1 h2) <;> omega)) (fun k h1 h2 => by have o := O.out; (try simp only [Iv, true_and, or_false, false_or] at h1 h2) <;> omega)) (Nat.le_refl _)), E.out.below⟩
def l12Copy_T1 : Bool × List (List Nat × List Nat) := (true, [([], []), ([0], [0]), ([1], [1]), ([], []), ([3], [3]), ([4, 2], [4]), ([], []), ([6], [6]), ([7, 5], [7]), ([], []), ([9], [9]), ([], []), ([11], [11]), ([2, 5, 8, 10, 12], [2, 5, 8, 10, 12]), ([], []), ([14, 13, 8, 0, 1, 2, 3, 4, 5, 6, 7, 8, 9, 10, 11, 12, 13, 14], [13, 14])])
def l12Copy_B1 : List Nat := [0, 1, 3, 0, 8, 31, 0, 64, 255, 0, 512, 0, 2048, 8191, 0, 32767]
theorem l12Copy_ok1_0 : regT (opsOf Try.f78 1) l12Copy_T1 l12Copy_B1 [15] (.p 0 (.t 1 (.p 3 (.t 4 (.p 6 (.t 7 (.p 9 (.t 10 (.p 11 (.t 12 (.two 2 14 (.two 5 14 (.two 8 14 (.p 13 (.e 14 (.l 15 .d))) (.e 8 (.p 13 (.l 15 .d)))) (.e 5 (.e 8 (.p 13 (.l 15 .d))))) (.e 2 (.e 5 (.e 8 (.p 13 (.l 15 .d)))))))))))))))) = true := by kernel_rfl
def l12Copy_T5 : Bool × List (List Nat × List Nat) := (true, [([], []), ([0], [0]), ([], []), ([2], [2]), ([], []), ([3, 4], [3, 4]), ([5], [5]), ([6], [6]), ([], []), ([8], [8]), ([], []), ([9, 10], [9, 10]), ([11], [11]), ([12], [12]), ([13], [13]), ([7, 14], [7, 14]), ([15], [15]), ([1, 16, 14], [1, 16]), ([0, 1, 2, 3, 4, 5, 6, 7, 8, 9, 10, 11, 12, 13, 14, 15, 16, 17], []), ([18, 17, 17, 0, 1, 2, 3, 4, 5, 6, 7, 8, 9, 10, 11, 12, 13, 14, 15, 16, 17], [17, 18])])
def l12Copy_B5 : List Nat := [0, 1, 0, 4, 0, 28, 60, 124, 0, 256, 0, 1792, 3840, 7936, 16128, 32764, 65532, 131071, 262143, 524287]
theorem l12Copy_ok5_1 : regT (opsOf Try.f78 5) l12Copy_T5 l12Copy_B5 [19] (.p 0 (.t 1 (.p 2 (.t 3 (.p 4 (.p 5 (.p 6 (.t 7 (.p 8 (.t 9 (.p 10 (.p 11 (.p 12 (.t 13 (.e 14 (.p 15 (.e 16 (.e 17 (.p 18 (.l 19 .d)))))))))))))))))))) = true := by kernel_rfl
theorem l12Copy_o (a0 : List ByteArray) (a1 : List S135) (x : S53) (rs : List S118) (y : S53) (l0 : List ByteArray) (l1 : List S135) (l2 : Int) (l3 l4 l5 : List Int) (n : Int) (bw bf : Bool) {cs : List Value} (w : World) (h : kStore.K w ((a0, a1), x, rs, (y, (l0, l1, l2, l3, l4, l5), n), bw, bf) cs) (f1 : a0.length ≤ 2000000 ∧ a1.length ≤ 2000000) (f2 : SmallM x) (f3 : ∀ r ∈ rs, SmallM r.f1) (f4 : SmallM y) (f5 : ((l0.length ≤ 2000000 ∧ l1.length ≤ 2000000) ∧ l3.length ≤ 2000000 ∧ l4.length ≤ 2000000 ∧ l5.length ≤ 2000000)) (hl : rs.length ≤ 2000000) :
  Calls Try.prog 78 #[.agg cs.toArray] w fun e w' => ∃ ds : List Value, e = .returned (.agg ds.toArray) ∧ kStore.M w' w.heap.size (Fr w w') ((a0, a1), x, rs, (y, (l0, l1, l2, l3, l4, l5), n), bw, bf) ds ∧ Below w.heap.size w w' := by
 have KS0 := h
 obtain ⟨cD, _, rfl, hD, cM, _, rfl, hM, cR, _, rfl, hR, cT, _, rfl, hT, cB, cF, rfl, hW, hF⟩ := h
 obtain rfl : cB = [.bool bw] := hW
 obtain rfl : cF = [.bool bf] := hF
 have hR2 := hR
 obtain ⟨AR, ccR, rfl, mR, rR⟩ := hR
 obtain ⟨cs, hcs⟩ : ∃ cs, cs = cD ++ (cM ++ ([.slice AR rs.length ccR] ++ (cT ++ ([.bool bw] ++ [.bool bf])))) := ⟨_, rfl⟩
 rw [← hcs] at KS0 ⊢
 have Ecs := Aside0.mk hcs
 have KS := Aside0.mk KS0
 have KD := Aside0.mk (show kDisk.K w (a0, a1) cD from hD)
 have KM := Aside0.mk (show k53.K w x cM from hM)
 have KR := Aside0.mk hR2
 have CR := Aside0.mk rR
 have KT := Aside0.mk (show kTxn.K w (y, (l0, l1, l2, l3, l4, l5), n) cT from hT)
 have LD := Aside0.mk (show cD.length = 2 from kDisk.K_len hD)
 have LM := Aside0.mk (show cM.length = 4 from k53.K_len hM)
 have LT := Aside0.mk (show cT.length = 11 from kTxn.K_len hT)
 have Lcs := Aside0.mk (show cs.length = 20 from kStore.K_len KS0)
 have F1 := Aside0.mk f1
 have F2 := Aside0.mk f2
 have F3 := Aside0.mk f3
 have F4 := Aside0.mk f4
 have F5 := Aside0.mk f5
 have FL := Aside0.mk hl
 clear KS0 hD hM hT hR2 mR rR hcs f1 f2 f3 f4 f5 hl
 have O := Aside0.mk (Nat.le_refl w.heap.size)
 have E := Aside0.mk (Env.start w)
 go_enter Try.func78, Try.ntmps78
 go_upto_region 1 with (fail)
 replace O := Aside0.mk (And.intro E.out.le O.out)
 replace E := Aside0.mk (E.out.alloc cs 58 (g := w.heap.size) rfl)
 replace E := Aside0.mk (E.out.alloc Z58 58 (g := (w.heap.size + 1)) (by simp))
 go_cut [3] (fun v3 w' => ∃ (g n1 m1 n2 m2 n3 m3 t : Nat) (dD dM dT : List Value), v3 = .pointer (some ⟨g, 0, none⟩) ∧ Aside0 (w.heap.size + 2 ≤ g ∧ w.heap.size + 2 ≤ n1 ∧ n1 ≤ m1 ∧ m1 ≤ n2 ∧ n2 ≤ m2 ∧ m2 ≤ n3 ∧ n3 ≤ m3 ∧ m3 ≤ t ∧ g + 1 ≤ t ∧ (g < n1 ∨ m1 ≤ g) ∧ (g < n2 ∨ m2 ≤ g) ∧ (g < n3 ∨ m3 ≤ g)) ∧ Aside0 (Env w w' t [Fct.box g (dD ++ (dM ++ ([.slice none 0 0] ++ (dT ++ ([.bool bw] ++ [.bool bf])))) : List Value) 58, Fct.made kTxn w.heap.size n3 m3 (fun _ => True) (y, (l0, l1, l2, l3, l4, l5), n) dT, Fct.made k53 w.heap.size n2 m2 (fun _ => True) x dM, Fct.made kDisk w.heap.size n1 m1 (fun _ => True) (a0, a1) dD, Fct.box (w.heap.size + 1) Z58 58, Fct.box w.heap.size cs 58]))
 case first =>
  go_upto_region 1 with (fail)
  replace E := Aside0.mk E.out.drew
  refine tre_start l12Copy_ok1_0 (S := fun w' => w'.heap[w.heap.size]? = some (.cells (cs : List Value).toArray 58 (0, 0)) ∧ True) (by kernel_rfl) (fun _ _ _ _ h => h) ⟨(E.out.box 1 rfl), trivial⟩ (fun hHeld => ?_)
  generalize hq : World.drew _ = w1_ at hHeld ⊢; replace E := E.out.to hq; clear hq
  (refine tre_p (v := ?_) (a' := ?_) rfl rfl (Or.inl ⟨by rfl, ?_⟩) ?_ ?_; rotate_left; (· intro w'; go_simp; with_reducible rfl); rotate_left; (· show Act.put _ (some _) _ = _; simp only [Act.put, s_A, s_0, s_1, i64_w]; try rfl))
  refine tre_loadpart (a' := ?ax2_) rfl rfl (by rfl) 32 _ rfl w.heap.size 0 [] cD (cM ++ ([.slice AR rs.length ccR] ++ (cT ++ ([.bool bw] ++ [.bool bf])))) _ rfl (fun w' hs => hs.1) (by rw [Ecs.out]; first | done | rfl | (simp only [aA, aN, aL]; first | done | rfl)) (rfl) Try.underlying32 rfl (by rw [LD.out]; kernel_rfl) ?px2_ ?kx2_
  case px2_ => (show Act.put _ (some _) _ = _; simp only [Act.put, s_A, s_0, s_1, i64_w]; try rfl)
  (refine tre_p (v := ?_) (a' := ?_) rfl rfl (Or.inl ⟨by rfl, ?_⟩) ?_ ?_; rotate_left; (· intro w'; go_simp; with_reducible rfl); rotate_left; (· show Act.put _ (some _) _ = _; simp only [Act.put, s_A, s_0, s_1, i64_w]; try rfl))
  refine tre_loadpart (a' := ?ax3_) rfl rfl (by rfl) 53 _ rfl w.heap.size 2 cD cM ([.slice AR rs.length ccR] ++ (cT ++ ([.bool bw] ++ [.bool bf]))) _ rfl (fun w' hs => hs.1) (by rw [Ecs.out]; first | done | rfl | (simp only [aA, aN, aL]; first | done | rfl)) (LD.out) Try.underlying53 rfl (by rw [LM.out]; kernel_rfl) ?px3_ ?kx3_
  case px3_ => (show Act.put _ (some _) _ = _; simp only [Act.put, s_A, s_0, s_1, i64_w]; try rfl)
  (refine tre_p (v := ?_) (a' := ?_) rfl rfl (Or.inl ⟨by rfl, ?_⟩) ?_ ?_; rotate_left; (· intro w'; go_simp; with_reducible rfl); rotate_left; (· show Act.put _ (some _) _ = _; simp only [Act.put, s_A, s_0, s_1, i64_w]; try rfl))
  refine tre_loadpart (a' := ?ax4_) rfl rfl (by rfl) 56 _ rfl w.heap.size 7 (cD ++ (cM ++ [.slice AR rs.length ccR])) cT ([.bool bw] ++ [.bool bf]) _ rfl (fun w' hs => hs.1) (by rw [Ecs.out]; first | done | rfl | (simp only [aA, aN, aL]; first | done | rfl)) (by simp only [List.length_append, List.length_cons, List.length_nil, LD.out, LM.out]) Try.underlying56 rfl (by rw [LT.out]; kernel_rfl) ?px4_ ?kx4_
  case px4_ => (show Act.put _ (some _) _ = _; simp only [Act.put, s_A, s_0, s_1, i64_w]; try rfl)
  (refine tre_p (v := ?_) (a' := ?_) rfl rfl (Or.inl ⟨by rfl, ?_⟩) ?_ ?_; rotate_left; (· intro w'; go_simp; with_reducible rfl); rotate_left; (· show Act.put _ (some _) _ = _; simp only [Act.put, s_A, s_0, s_1, i64_w]; try rfl))
  refine tre_loadcell (a' := ?ax5_) rfl rfl (by rfl) 4 _ rfl w.heap.size 18 (cD ++ (cM ++ ([.slice AR rs.length ccR] ++ cT))) (.bool bw) [.bool bf] _ rfl (fun w' hs => hs.1) (by rw [Ecs.out]; first | done | rfl | (simp only [aA, aN, aL]; first | done | rfl)) (by simp only [List.length_append, List.length_cons, List.length_nil, LD.out, LM.out, LT.out]) Try.underlying4 rfl ?px5_ ?kx5_
  case px5_ => (show Act.put _ (some _) _ = _; simp only [Act.put, s_A, s_0, s_1, i64_w]; try rfl)
  (refine tre_p (v := ?_) (a' := ?_) rfl rfl (Or.inl ⟨by rfl, ?_⟩) ?_ ?_; rotate_left; (· intro w'; go_simp; with_reducible rfl); rotate_left; (· show Act.put _ (some _) _ = _; simp only [Act.put, s_A, s_0, s_1, i64_w]; try rfl))
  refine tre_loadcell (a' := ?ax6_) rfl rfl (by rfl) 4 _ rfl w.heap.size 19 (cD ++ (cM ++ ([.slice AR rs.length ccR] ++ (cT ++ [.bool bw])))) (.bool bf) [] _ rfl (fun w' hs => hs.1) (by rw [Ecs.out]; first | done | rfl | (simp only [aA, aN, aL]; first | done | rfl)) (by simp only [List.length_append, List.length_cons, List.length_nil, LD.out, LM.out, LT.out]) Try.underlying4 rfl ?px6_ ?kx6_
  case px6_ => (show Act.put _ (some _) _ = _; simp only [Act.put, s_A, s_0, s_1, i64_w]; try rfl)
  refine tre_two rfl rfl (ev1_call rfl Try.func65 (by kernel_rfl) rfl #[.agg cD.toArray] (by rfl) rfl (by (try simp only [List.map_toArray, List.map_cons, List.map_nil]); first | done | rfl) ?_) (ev1_alloc rfl (by rfl) 58 rfl Z58 (by kernel_rfl) ?_)
  ·
   with_reducible refine (l03Copy_n a0 a1 _ (E.out.K KD.out) F1.out).mono ?_
   rintro e w7_ ⟨d8_, rfl, Md8_, hb⟩
   have q := E.out.made4 O.out 2 rfl Md8_ hb; clear O E Md8_ hb; obtain ⟨n9_, m10_, Ld8_, Od8_, O, E⟩ := q
   refine ⟨_, rfl, ⟨(E.out.box 2 rfl), trivial⟩, (fun hHeld => ?_)⟩
   refine tre_norm (a' := ?_) ?_ ?_; rotate_left; (· show Act.put _ (some 7) _ = _; simp only [Act.put, s_A, s_0, s_1, i64_w]; try rfl)
   refine tre_two rfl rfl (ev1_call rfl Try.func87 (by kernel_rfl) rfl #[.agg cM.toArray] (by rfl) rfl (by (try simp only [List.map_toArray, List.map_cons, List.map_nil]); first | done | rfl) ?_) (ev1_alloc rfl (by rfl) 58 rfl Z58 (by kernel_rfl) ?_)
   ·
    with_reducible refine (l06Copy_o x x _ (E.out.K KM.out) ⟨rfl, F2.out⟩).mono ?_
    rintro e w11_ ⟨d12_, rfl, Md12_, hb⟩
    have q := E.out.made4 O.out 4 rfl Md12_ hb; clear O E Md12_ hb; obtain ⟨n13_, m14_, Ld12_, Od12_, O, E⟩ := q
    refine ⟨_, rfl, ⟨(E.out.box 3 rfl), trivial⟩, (fun hHeld => ?_)⟩
    refine tre_norm (a' := ?_) ?_ ?_; rotate_left; (· show Act.put _ (some 10) _ = _; simp only [Act.put, s_A, s_0, s_1, i64_w]; try rfl)
    refine tre_two rfl rfl (ev1_call rfl Try.func132 (by kernel_rfl) rfl #[.agg cT.toArray] (by rfl) rfl (by (try simp only [List.map_toArray, List.map_cons, List.map_nil]); first | done | rfl) ?_) (ev1_alloc rfl (by rfl) 58 rfl Z58 (by kernel_rfl) ?_)
    ·
     with_reducible refine (l11Copy_o y l0 l1 l2 l3 l4 l5 n _ (E.out.K KT.out) F4.out F5.out).mono ?_
     rintro e w15_ ⟨d16_, rfl, Md16_, hb⟩
     have q := E.out.made4 O.out 11 rfl Md16_ hb; clear O E Md16_ hb; obtain ⟨n17_, m18_, Ld16_, Od16_, O, E⟩ := q
     refine ⟨_, rfl, ⟨(E.out.box 4 rfl), trivial⟩, (fun hHeld => ?_)⟩
     refine tre_norm (a' := ?_) ?_ ?_; rotate_left; (· show Act.put _ (some 13) _ = _; simp only [Act.put, s_A, s_0, s_1, i64_w]; try rfl)
     obtain ⟨c19_, Ec19_, Lc19_, Oc19_⟩ := lump_ (d8_ ++ (d12_ ++ ([.slice none 0 0] ++ (d16_ ++ ([.bool bw] ++ [.bool bf]))))) 20 (by simp only [List.length_append, List.length_cons, List.length_nil, Ld12_.out, Ld16_.out, Ld8_.out]) (ones_app Od8_.out (ones_app Od12_.out (ones_app (ones1 rfl) (ones_app Od16_.out (ones_app (ones1 rfl) (ones1 rfl))))))
     refine tre_p (v := .agg c19_.toArray) (a' := ?_) rfl rfl (Or.inl ⟨by rfl, run_build 58 _ rfl Z58 (fun w => by kernel_rfl) _ Try.underlying58 #[(0, 2), (2, 4), (6, 1), (7, 11), (18, 1), (19, 1)] (fun w => by kernel_rfl) [(0, .agg d8_.toArray), (1, .agg d12_.toArray), (3, .agg d16_.toArray), (4, .bool bw), (5, .bool bf)] (by first | rfl | (simp only [List.map_toArray, List.map_cons, List.map_nil]; rfl)) c19_ (by rw [Ec19_.out]; refine fill_seg (new := d8_) (pre := []) (mid := [.slice none 0 0, .slice none 0 0]) (post := [.int .i64 0, .int .i64 0, .int .i64 0, .slice none 0 0, .slice none 0 0, .int .i64 0, .int .i64 0, .int .i64 0, .slice none 0 0, .slice none 0 0, .slice none 0 0, .int .i64 0, .slice none 0 0, .slice none 0 0, .slice none 0 0, .int .i64 0, .bool false, .bool false]) rfl (by first | rfl | (simp only [aA, aN, aL]; first | done | rfl)) (by show some (0, 2) = some (_, _); rw [show (d8_ : List Value).length = 2 from Ld8_.out]; first | done | rfl) (by rw [Ld8_.out]; rfl) ?_; refine fill_seg (new := d12_) (pre := d8_) (mid := [.int .i64 0, .int .i64 0, .int .i64 0, .slice none 0 0]) (post := [.slice none 0 0, .int .i64 0, .int .i64 0, .int .i64 0, .slice none 0 0, .slice none 0 0, .slice none 0 0, .int .i64 0, .slice none 0 0, .slice none 0 0, .slice none 0 0, .int .i64 0, .bool false, .bool false]) rfl (by first | rfl | (simp only [aA, aN, aL]; first | done | rfl)) (by show some (2, 4) = some (_, _); rw [show (d8_ : List Value).length = 2 from Ld8_.out, show (d12_ : List Value).length = 4 from Ld12_.out]; first | done | rfl) (by rw [Ld12_.out]; rfl) ?_; refine fill_seg (new := d16_) (pre := (d8_ ++ (d12_ ++ [.slice none 0 0]))) (mid := [.int .i64 0, .int .i64 0, .int .i64 0, .slice none 0 0, .slice none 0 0, .slice none 0 0, .int .i64 0, .slice none 0 0, .slice none 0 0, .slice none 0 0, .int .i64 0]) (post := [.bool false, .bool false]) rfl (by first | rfl | (simp only [aA, aN, aL]; first | done | rfl)) (by show some (7, 11) = some (_, _); rw [show ((d8_ ++ (d12_ ++ [.slice none 0 0])) : List Value).length = 7 from by simp only [List.length_append, List.length_cons, List.length_nil, Ld12_.out, Ld8_.out], show (d16_ : List Value).length = 11 from Ld16_.out]; first | done | rfl) (by rw [Ld16_.out]; rfl) ?_; refine fill_seg (new := [.bool bw]) (pre := (d8_ ++ (d12_ ++ ([.slice none 0 0] ++ d16_)))) (mid := [.bool false]) (post := [.bool false]) rfl (by first | rfl | (simp only [aA, aN, aL]; first | done | rfl)) (by show some (18, 1) = some (_, _); rw [show ((d8_ ++ (d12_ ++ ([.slice none 0 0] ++ d16_))) : List Value).length = 18 from by simp only [List.length_append, List.length_cons, List.length_nil, Ld12_.out, Ld16_.out, Ld8_.out]]; first | done | rfl) (rfl) ?_; refine fill_seg (new := [.bool bf]) (pre := (d8_ ++ (d12_ ++ ([.slice none 0 0] ++ (d16_ ++ [.bool bw]))))) (mid := [.bool false]) (post := []) rfl (by first | rfl | (simp only [aA, aN, aL]; first | done | rfl)) (by show some (19, 1) = some (_, _); rw [show ((d8_ ++ (d12_ ++ ([.slice none 0 0] ++ (d16_ ++ [.bool bw])))) : List Value).length = 19 from by simp only [List.length_append, List.length_cons, List.length_nil, Ld12_.out, Ld16_.out, Ld8_.out]]; first | done | rfl) (rfl) ?_; first | rfl | simp only [Instr.fill, aA, aN, aL])⟩) ?_ ?_; rotate_left; (· show Act.put _ (some _) _ = _; simp only [Act.put, s_A, s_0, s_1, i64_w]; try rfl)
     refine tre_e rfl (ev1_alloc rfl (by rfl) 58 rfl Z58 (by kernel_rfl) ?_)
     replace O := Aside0.mk (And.intro E.out.le O.out)
     replace E := Aside0.mk (E.out.alloc Z58 58 (g := w15_.heap.size) rfl)
     refine ⟨⟨(E.out.box 5 rfl), trivial⟩, (fun hHeld => ?_)⟩
     refine tre_norm (a' := ?_) ?_ ?_; rotate_left; (· show Act.put _ (some 3) _ = _; simp only [Act.put, s_A, s_0, s_1, i64_w]; try rfl)
     generalize (w15_.alloc (.cells Z58.toArray 58)) = w20_ at E hHeld ⊢
     refine tre_l rfl (ev1_storepart rfl (by rfl) 58 _ _ rfl w15_.heap.size 0 c19_ [] Z58 [] rfl rfl (E.out.box 0 rfl) (by first | rfl | (simp only [aA, aN, aL]; first | done | rfl)) (rfl) (by rw [Lc19_.out]; rfl) (by rw [Lc19_.out]; kernel_rfl) Oc19_.out (fun W21_ hp hn => ?_))
     replace E := E.out.put2 0 hp hn (by have o := O.out; dsimp only [Off, OffA, Fct.box, Fct.made, List.set]; and_intros <;> first | trivial | omega); clear hp hn
     replace E := Aside0.mk (E.out.pick [(0, _), (1, _), (2, _), (3, _), (4, _), (5, _)] ⟨rfl, rfl, rfl, rfl, rfl, rfl, trivial⟩)
     refine tre_done ?_
     clear hHeld
     go_wp2_with fail
     go_meet
     exact ⟨w15_.heap.size, n9_, m10_, n13_, m14_, n17_, m18_, (w15_.heap.size + 1), d8_, d12_, d16_, rfl, ⟨by have o := O.out; and_intros <;> omega⟩, ⟨by have e := E.out; simp only [List.map_cons, List.map_nil, aN, aL, Ec19_.out] at e; exact e⟩⟩
    ·
     replace O := Aside0.mk (And.intro E.out.le O.out)
     replace E := Aside0.mk (E.out.alloc Z58 58 (g := w11_.heap.size) rfl)
     refine ⟨⟨(E.out.box 4 rfl), trivial⟩, (fun hHeld => ?_)⟩
     refine tre_norm (a' := ?_) ?_ ?_; rotate_left; (· show Act.put _ (some 3) _ = _; simp only [Act.put, s_A, s_0, s_1, i64_w]; try rfl)
     generalize (w11_.alloc (.cells Z58.toArray 58)) = w22_ at E hHeld ⊢
     refine tre_e rfl (ev1_call rfl Try.func132 (by kernel_rfl) rfl #[.agg cT.toArray] (by rfl) rfl (by (try simp only [List.map_toArray, List.map_cons, List.map_nil]); first | done | rfl) ?_)
     with_reducible refine (l11Copy_o y l0 l1 l2 l3 l4 l5 n _ (E.out.K KT.out) F4.out F5.out).mono ?_
     rintro e w23_ ⟨d24_, rfl, Md24_, hb⟩
     have q := E.out.made4 O.out 11 rfl Md24_ hb; clear O E Md24_ hb; obtain ⟨n25_, m26_, Ld24_, Od24_, O, E⟩ := q
     refine ⟨_, rfl, ⟨(E.out.box 5 rfl), trivial⟩, (fun hHeld => ?_)⟩
     refine tre_norm (a' := ?_) ?_ ?_; rotate_left; (· show Act.put _ (some 13) _ = _; simp only [Act.put, s_A, s_0, s_1, i64_w]; try rfl)
     obtain ⟨c27_, Ec27_, Lc27_, Oc27_⟩ := lump_ (d8_ ++ (d12_ ++ ([.slice none 0 0] ++ (d24_ ++ ([.bool bw] ++ [.bool bf]))))) 20 (by simp only [List.length_append, List.length_cons, List.length_nil, Ld12_.out, Ld24_.out, Ld8_.out]) (ones_app Od8_.out (ones_app Od12_.out (ones_app (ones1 rfl) (ones_app Od24_.out (ones_app (ones1 rfl) (ones1 rfl))))))
     refine tre_p (v := .agg c27_.toArray) (a' := ?_) rfl rfl (Or.inl ⟨by rfl, run_build 58 _ rfl Z58 (fun w => by kernel_rfl) _ Try.underlying58 #[(0, 2), (2, 4), (6, 1), (7, 11), (18, 1), (19, 1)] (fun w => by kernel_rfl) [(0, .agg d8_.toArray), (1, .agg d12_.toArray), (3, .agg d24_.toArray), (4, .bool bw), (5, .bool bf)] (by first | rfl | (simp only [List.map_toArray, List.map_cons, List.map_nil]; rfl)) c27_ (by rw [Ec27_.out]; refine fill_seg (new := d8_) (pre := []) (mid := [.slice none 0 0, .slice none 0 0]) (post := [.int .i64 0, .int .i64 0, .int .i64 0, .slice none 0 0, .slice none 0 0, .int .i64 0, .int .i64 0, .int .i64 0, .slice none 0 0, .slice none 0 0, .slice none 0 0, .int .i64 0, .slice none 0 0, .slice none 0 0, .slice none 0 0, .int .i64 0, .bool false, .bool false]) rfl (by first | rfl | (simp only [aA, aN, aL]; first | done | rfl)) (by show some (0, 2) = some (_, _); rw [show (d8_ : List Value).length = 2 from Ld8_.out]; first | done | rfl) (by rw [Ld8_.out]; rfl) ?_; refine fill_seg (new := d12_) (pre := d8_) (mid := [.int .i64 0, .int .i64 0, .int .i64 0, .slice none 0 0]) (post := [.slice none 0 0, .int .i64 0, .int .i64 0, .int .i64 0, .slice none 0 0, .slice none 0 0, .slice none 0 0, .int .i64 0, .slice none 0 0, .slice none 0 0, .slice none 0 0, .int .i64 0, .bool false, .bool false]) rfl (by first | rfl | (simp only [aA, aN, aL]; first | done | rfl)) (by show some (2, 4) = some (_, _); rw [show (d8_ : List Value).length = 2 from Ld8_.out, show (d12_ : List Value).length = 4 from Ld12_.out]; first | done | rfl) (by rw [Ld12_.out]; rfl) ?_; refine fill_seg (new := d24_) (pre := (d8_ ++ (d12_ ++ [.slice none 0 0]))) (mid := [.int .i64 0, .int .i64 0, .int .i64 0, .slice none 0 0, .slice none 0 0, .slice none 0 0, .int .i64 0, .slice none 0 0, .slice none 0 0, .slice none 0 0, .int .i64 0]) (post := [.bool false, .bool false]) rfl (by first | rfl | (simp only [aA, aN, aL]; first | done | rfl)) (by show some (7, 11) = some (_, _); rw [show ((d8_ ++ (d12_ ++ [.slice none 0 0])) : List Value).length = 7 from by simp only [List.length_append, List.length_cons, List.length_nil, Ld12_.out, Ld8_.out], show (d24_ : List Value).length = 11 from Ld24_.out]; first | done | rfl) (by rw [Ld24_.out]; rfl) ?_; refine fill_seg (new := [.bool bw]) (pre := (d8_ ++ (d12_ ++ ([.slice none 0 0] ++ d24_)))) (mid := [.bool false]) (post := [.bool false]) rfl (by first | rfl | (simp only [aA, aN, aL]; first | done | rfl)) (by show some (18, 1) = some (_, _); rw [show ((d8_ ++ (d12_ ++ ([.slice none 0 0] ++ d24_))) : List Value).length = 18 from by simp only [List.length_append, List.length_cons, List.length_nil, Ld12_.out, Ld24_.out, Ld8_.out]]; first | done | rfl) (rfl) ?_; refine fill_seg (new := [.bool bf]) (pre := (d8_ ++ (d12_ ++ ([.slice none 0 0] ++ (d24_ ++ [.bool bw]))))) (mid := [.bool false]) (post := []) rfl (by first | rfl | (simp only [aA, aN, aL]; first | done | rfl)) (by show some (19, 1) = some (_, _); rw [show ((d8_ ++ (d12_ ++ ([.slice none 0 0] ++ (d24_ ++ [.bool bw])))) : List Value).length = 19 from by simp only [List.length_append, List.length_cons, List.length_nil, Ld12_.out, Ld24_.out, Ld8_.out]]; first | done | rfl) (rfl) ?_; first | rfl | simp only [Instr.fill, aA, aN, aL])⟩) ?_ ?_; rotate_left; (· show Act.put _ (some _) _ = _; simp only [Act.put, s_A, s_0, s_1, i64_w]; try rfl)
     refine tre_l rfl (ev1_storepart rfl (by rfl) 58 _ _ rfl w11_.heap.size 0 c27_ [] Z58 [] rfl rfl (E.out.box 1 rfl) (by first | rfl | (simp only [aA, aN, aL]; first | done | rfl)) (rfl) (by rw [Lc27_.out]; rfl) (by rw [Lc27_.out]; kernel_rfl) Oc27_.out (fun W28_ hp hn => ?_))
     replace E := E.out.put2 1 hp hn (by have o := O.out; dsimp only [Off, OffA, Fct.box, Fct.made, List.set]; and_intros <;> first | trivial | omega); clear hp hn
     replace E := Aside0.mk (E.out.pick [(1, _), (0, _), (2, _), (3, _), (4, _), (5, _)] ⟨rfl, rfl, rfl, rfl, rfl, rfl, trivial⟩)
     refine tre_done ?_
     clear hHeld
     go_wp2_with fail
     go_meet
     exact ⟨w11_.heap.size, n9_, m10_, n13_, m14_, n25_, m26_, m26_, d8_, d12_, d24_, rfl, ⟨by have o := O.out; and_intros <;> omega⟩, ⟨by have e := E.out; simp only [List.map_cons, List.map_nil, aN, aL, Ec27_.out] at e; exact e⟩⟩
   ·
    replace O := Aside0.mk (And.intro E.out.le O.out)
    replace E := Aside0.mk (E.out.alloc Z58 58 (g := w7_.heap.size) rfl)
    refine ⟨⟨(E.out.box 3 rfl), trivial⟩, (fun hHeld => ?_)⟩
    refine tre_norm (a' := ?_) ?_ ?_; rotate_left; (· show Act.put _ (some 3) _ = _; simp only [Act.put, s_A, s_0, s_1, i64_w]; try rfl)
    generalize (w7_.alloc (.cells Z58.toArray 58)) = w29_ at E hHeld ⊢
    refine tre_e rfl (ev1_call rfl Try.func87 (by kernel_rfl) rfl #[.agg cM.toArray] (by rfl) rfl (by (try simp only [List.map_toArray, List.map_cons, List.map_nil]); first | done | rfl) ?_)
    with_reducible refine (l06Copy_o x x _ (E.out.K KM.out) ⟨rfl, F2.out⟩).mono ?_
    rintro e w30_ ⟨d31_, rfl, Md31_, hb⟩
    have q := E.out.made4 O.out 4 rfl Md31_ hb; clear O E Md31_ hb; obtain ⟨n32_, m33_, Ld31_, Od31_, O, E⟩ := q
    refine ⟨_, rfl, ⟨(E.out.box 4 rfl), trivial⟩, (fun hHeld => ?_)⟩
    refine tre_norm (a' := ?_) ?_ ?_; rotate_left; (· show Act.put _ (some 10) _ = _; simp only [Act.put, s_A, s_0, s_1, i64_w]; try rfl)
    refine tre_e rfl (ev1_call rfl Try.func132 (by kernel_rfl) rfl #[.agg cT.toArray] (by rfl) rfl (by (try simp only [List.map_toArray, List.map_cons, List.map_nil]); first | done | rfl) ?_)
    with_reducible refine (l11Copy_o y l0 l1 l2 l3 l4 l5 n _ (E.out.K KT.out) F4.out F5.out).mono ?_
    rintro e w34_ ⟨d35_, rfl, Md35_, hb⟩
    have q := E.out.made4 O.out 11 rfl Md35_ hb; clear O E Md35_ hb; obtain ⟨n36_, m37_, Ld35_, Od35_, O, E⟩ := q
    refine ⟨_, rfl, ⟨(E.out.box 5 rfl), trivial⟩, (fun hHeld => ?_)⟩
    refine tre_norm (a' := ?_) ?_ ?_; rotate_left; (· show Act.put _ (some 13) _ = _; simp only [Act.put, s_A, s_0, s_1, i64_w]; try rfl)
    obtain ⟨c38_, Ec38_, Lc38_, Oc38_⟩ := lump_ (d8_ ++ (d31_ ++ ([.slice none 0 0] ++ (d35_ ++ ([.bool bw] ++ [.bool bf]))))) 20 (by simp only [List.length_append, List.length_cons, List.length_nil, Ld31_.out, Ld35_.out, Ld8_.out]) (ones_app Od8_.out (ones_app Od31_.out (ones_app (ones1 rfl) (ones_app Od35_.out (ones_app (ones1 rfl) (ones1 rfl))))))
    refine tre_p (v := .agg c38_.toArray) (a' := ?_) rfl rfl (Or.inl ⟨by rfl, run_build 58 _ rfl Z58 (fun w => by kernel_rfl) _ Try.underlying58 #[(0, 2), (2, 4), (6, 1), (7, 11), (18, 1), (19, 1)] (fun w => by kernel_rfl) [(0, .agg d8_.toArray), (1, .agg d31_.toArray), (3, .agg d35_.toArray), (4, .bool bw), (5, .bool bf)] (by first | rfl | (simp only [List.map_toArray, List.map_cons, List.map_nil]; rfl)) c38_ (by rw [Ec38_.out]; refine fill_seg (new := d8_) (pre := []) (mid := [.slice none 0 0, .slice none 0 0]) (post := [.int .i64 0, .int .i64 0, .int .i64 0, .slice none 0 0, .slice none 0 0, .int .i64 0, .int .i64 0, .int .i64 0, .slice none 0 0, .slice none 0 0, .slice none 0 0, .int .i64 0, .slice none 0 0, .slice none 0 0, .slice none 0 0, .int .i64 0, .bool false, .bool false]) rfl (by first | rfl | (simp only [aA, aN, aL]; first | done | rfl)) (by show some (0, 2) = some (_, _); rw [show (d8_ : List Value).length = 2 from Ld8_.out]; first | done | rfl) (by rw [Ld8_.out]; rfl) ?_; refine fill_seg (new := d31_) (pre := d8_) (mid := [.int .i64 0, .int .i64 0, .int .i64 0, .slice none 0 0]) (post := [.slice none 0 0, .int .i64 0, .int .i64 0, .int .i64 0, .slice none 0 0, .slice none 0 0, .slice none 0 0, .int .i64 0, .slice none 0 0, .slice none 0 0, .slice none 0 0, .int .i64 0, .bool false, .bool false]) rfl (by first | rfl | (simp only [aA, aN, aL]; first | done | rfl)) (by show some (2, 4) = some (_, _); rw [show (d8_ : List Value).length = 2 from Ld8_.out, show (d31_ : List Value).length = 4 from Ld31_.out]; first | done | rfl) (by rw [Ld31_.out]; rfl) ?_; refine fill_seg (new := d35_) (pre := (d8_ ++ (d31_ ++ [.slice none 0 0]))) (mid := [.int .i64 0, .int .i64 0, .int .i64 0, .slice none 0 0, .slice none 0 0, .slice none 0 0, .int .i64 0, .slice none 0 0, .slice none 0 0, .slice none 0 0, .int .i64 0]) (post := [.bool false, .bool false]) rfl (by first | rfl | (simp only [aA, aN, aL]; first | done | rfl)) (by show some (7, 11) = some (_, _); rw [show ((d8_ ++ (d31_ ++ [.slice none 0 0])) : List Value).length = 7 from by simp only [List.length_append, List.length_cons, List.length_nil, Ld31_.out, Ld8_.out], show (d35_ : List Value).length = 11 from Ld35_.out]; first | done | rfl) (by rw [Ld35_.out]; rfl) ?_; refine fill_seg (new := [.bool bw]) (pre := (d8_ ++ (d31_ ++ ([.slice none 0 0] ++ d35_)))) (mid := [.bool false]) (post := [.bool false]) rfl (by first | rfl | (simp only [aA, aN, aL]; first | done | rfl)) (by show some (18, 1) = some (_, _); rw [show ((d8_ ++ (d31_ ++ ([.slice none 0 0] ++ d35_))) : List Value).length = 18 from by simp only [List.length_append, List.length_cons, List.length_nil, Ld31_.out, Ld35_.out, Ld8_.out]]; first | done | rfl) (rfl) ?_; refine fill_seg (new := [.bool bf]) (pre := (d8_ ++ (d31_ ++ ([.slice none 0 0] ++ (d35_ ++ [.bool bw]))))) (mid := [.bool false]) (post := []) rfl (by first | rfl | (simp only [aA, aN, aL]; first | done | rfl)) (by show some (19, 1) = some (_, _); rw [show ((d8_ ++ (d31_ ++ ([.slice none 0 0] ++ (d35_ ++ [.bool bw])))) : List Value).length = 19 from by simp only [List.length_append, List.length_cons, List.length_nil, Ld31_.out, Ld35_.out, Ld8_.out]]; first | done | rfl) (rfl) ?_; first | rfl | simp only [Instr.fill, aA, aN, aL])⟩) ?_ ?_; rotate_left; (· show Act.put _ (some _) _ = _; simp only [Act.put, s_A, s_0, s_1, i64_w]; try rfl)
    refine tre_l rfl (ev1_storepart rfl (by rfl) 58 _ _ rfl w7_.heap.size 0 c38_ [] Z58 [] rfl rfl (E.out.box 2 rfl) (by first | rfl | (simp only [aA, aN, aL]; first | done | rfl)) (rfl) (by rw [Lc38_.out]; rfl) (by rw [Lc38_.out]; kernel_rfl) Oc38_.out (fun W39_ hp hn => ?_))
    replace E := E.out.put2 2 hp hn (by have o := O.out; dsimp only [Off, OffA, Fct.box, Fct.made, List.set]; and_intros <;> first | trivial | omega); clear hp hn
    replace E := Aside0.mk (E.out.pick [(2, _), (0, _), (1, _), (3, _), (4, _), (5, _)] ⟨rfl, rfl, rfl, rfl, rfl, rfl, trivial⟩)
    refine tre_done ?_
    clear hHeld
    go_wp2_with fail
    go_meet
    exact ⟨w7_.heap.size, n9_, m10_, n32_, m33_, n36_, m37_, m37_, d8_, d31_, d35_, rfl, ⟨by have o := O.out; and_intros <;> omega⟩, ⟨by have e := E.out; simp only [List.map_cons, List.map_nil, aN, aL, Ec38_.out] at e; exact e⟩⟩
  ·
   replace O := Aside0.mk (And.intro E.out.le O.out)
   replace E := Aside0.mk (E.out.alloc Z58 58 (g := w1_.heap.size) rfl)
   refine ⟨⟨(E.out.box 2 rfl), trivial⟩, (fun hHeld => ?_)⟩
   refine tre_norm (a' := ?_) ?_ ?_; rotate_left; (· show Act.put _ (some 3) _ = _; simp only [Act.put, s_A, s_0, s_1, i64_w]; try rfl)
   generalize (w1_.alloc (.cells Z58.toArray 58)) = w40_ at E hHeld ⊢
   refine tre_e rfl (ev1_call rfl Try.func65 (by kernel_rfl) rfl #[.agg cD.toArray] (by rfl) rfl (by (try simp only [List.map_toArray, List.map_cons, List.map_nil]); first | done | rfl) ?_)
   with_reducible refine (l03Copy_n a0 a1 _ (E.out.K KD.out) F1.out).mono ?_
   rintro e w41_ ⟨d42_, rfl, Md42_, hb⟩
   have q := E.out.made4 O.out 2 rfl Md42_ hb; clear O E Md42_ hb; obtain ⟨n43_, m44_, Ld42_, Od42_, O, E⟩ := q
   refine ⟨_, rfl, ⟨(E.out.box 3 rfl), trivial⟩, (fun hHeld => ?_)⟩
   refine tre_norm (a' := ?_) ?_ ?_; rotate_left; (· show Act.put _ (some 7) _ = _; simp only [Act.put, s_A, s_0, s_1, i64_w]; try rfl)
   refine tre_e rfl (ev1_call rfl Try.func87 (by kernel_rfl) rfl #[.agg cM.toArray] (by rfl) rfl (by (try simp only [List.map_toArray, List.map_cons, List.map_nil]); first | done | rfl) ?_)
   with_reducible refine (l06Copy_o x x _ (E.out.K KM.out) ⟨rfl, F2.out⟩).mono ?_
   rintro e w45_ ⟨d46_, rfl, Md46_, hb⟩
   have q := E.out.made4 O.out 4 rfl Md46_ hb; clear O E Md46_ hb; obtain ⟨n47_, m48_, Ld46_, Od46_, O, E⟩ := q
   refine ⟨_, rfl, ⟨(E.out.box 4 rfl), trivial⟩, (fun hHeld => ?_)⟩
   refine tre_norm (a' := ?_) ?_ ?_; rotate_left; (· show Act.put _ (some 10) _ = _; simp only [Act.put, s_A, s_0, s_1, i64_w]; try rfl)
   refine tre_e rfl (ev1_call rfl Try.func132 (by kernel_rfl) rfl #[.agg cT.toArray] (by rfl) rfl (by (try simp only [List.map_toArray, List.map_cons, List.map_nil]); first | done | rfl) ?_)
   with_reducible refine (l11Copy_o y l0 l1 l2 l3 l4 l5 n _ (E.out.K KT.out) F4.out F5.out).mono ?_
   rintro e w49_ ⟨d50_, rfl, Md50_, hb⟩
   have q := E.out.made4 O.out 11 rfl Md50_ hb; clear O E Md50_ hb; obtain ⟨n51_, m52_, Ld50_, Od50_, O, E⟩ := q
   refine ⟨_, rfl, ⟨(E.out.box 5 rfl), trivial⟩, (fun hHeld => ?_)⟩
   refine tre_norm (a' := ?_) ?_ ?_; rotate_left; (· show Act.put _ (some 13) _ = _; simp only [Act.put, s_A, s_0, s_1, i64_w]; try rfl)
   obtain ⟨c53_, Ec53_, Lc53_, Oc53_⟩ := lump_ (d42_ ++ (d46_ ++ ([.slice none 0 0] ++ (d50_ ++ ([.bool bw] ++ [.bool bf]))))) 20 (by simp only [List.length_append, List.length_cons, List.length_nil, Ld42_.out, Ld46_.out, Ld50_.out]) (ones_app Od42_.out (ones_app Od46_.out (ones_app (ones1 rfl) (ones_app Od50_.out (ones_app (ones1 rfl) (ones1 rfl))))))
   refine tre_p (v := .agg c53_.toArray) (a' := ?_) rfl rfl (Or.inl ⟨by rfl, run_build 58 _ rfl Z58 (fun w => by kernel_rfl) _ Try.underlying58 #[(0, 2), (2, 4), (6, 1), (7, 11), (18, 1), (19, 1)] (fun w => by kernel_rfl) [(0, .agg d42_.toArray), (1, .agg d46_.toArray), (3, .agg d50_.toArray), (4, .bool bw), (5, .bool bf)] (by first | rfl | (simp only [List.map_toArray, List.map_cons, List.map_nil]; rfl)) c53_ (by rw [Ec53_.out]; refine fill_seg (new := d42_) (pre := []) (mid := [.slice none 0 0, .slice none 0 0]) (post := [.int .i64 0, .int .i64 0, .int .i64 0, .slice none 0 0, .slice none 0 0, .int .i64 0, .int .i64 0, .int .i64 0, .slice none 0 0, .slice none 0 0, .slice none 0 0, .int .i64 0, .slice none 0 0, .slice none 0 0, .slice none 0 0, .int .i64 0, .bool false, .bool false]) rfl (by first | rfl | (simp only [aA, aN, aL]; first | done | rfl)) (by show some (0, 2) = some (_, _); rw [show (d42_ : List Value).length = 2 from Ld42_.out]; first | done | rfl) (by rw [Ld42_.out]; rfl) ?_; refine fill_seg (new := d46_) (pre := d42_) (mid := [.int .i64 0, .int .i64 0, .int .i64 0, .slice none 0 0]) (post := [.slice none 0 0, .int .i64 0, .int .i64 0, .int .i64 0, .slice none 0 0, .slice none 0 0, .slice none 0 0, .int .i64 0, .slice none 0 0, .slice none 0 0, .slice none 0 0, .int .i64 0, .bool false, .bool false]) rfl (by first | rfl | (simp only [aA, aN, aL]; first | done | rfl)) (by show some (2, 4) = some (_, _); rw [show (d42_ : List Value).length = 2 from Ld42_.out, show (d46_ : List Value).length = 4 from Ld46_.out]; first | done | rfl) (by rw [Ld46_.out]; rfl) ?_; refine fill_seg (new := d50_) (pre := (d42_ ++ (d46_ ++ [.slice none 0 0]))) (mid := [.int .i64 0, .int .i64 0, .int .i64 0, .slice none 0 0, .slice none 0 0, .slice none 0 0, .int .i64 0, .slice none 0 0, .slice none 0 0, .slice none 0 0, .int .i64 0]) (post := [.bool false, .bool false]) rfl (by first | rfl | (simp only [aA, aN, aL]; first | done | rfl)) (by show some (7, 11) = some (_, _); rw [show ((d42_ ++ (d46_ ++ [.slice none 0 0])) : List Value).length = 7 from by simp only [List.length_append, List.length_cons, List.length_nil, Ld42_.out, Ld46_.out], show (d50_ : List Value).length = 11 from Ld50_.out]; first | done | rfl) (by rw [Ld50_.out]; rfl) ?_; refine fill_seg (new := [.bool bw]) (pre := (d42_ ++ (d46_ ++ ([.slice none 0 0] ++ d50_)))) (mid := [.bool false]) (post := [.bool false]) rfl (by first | rfl | (simp only [aA, aN, aL]; first | done | rfl)) (by show some (18, 1) = some (_, _); rw [show ((d42_ ++ (d46_ ++ ([.slice none 0 0] ++ d50_))) : List Value).length = 18 from by simp only [List.length_append, List.length_cons, List.length_nil, Ld42_.out, Ld46_.out, Ld50_.out]]; first | done | rfl) (rfl) ?_; refine fill_seg (new := [.bool bf]) (pre := (d42_ ++ (d46_ ++ ([.slice none 0 0] ++ (d50_ ++ [.bool bw]))))) (mid := [.bool false]) (post := []) rfl (by first | rfl | (simp only [aA, aN, aL]; first | done | rfl)) (by show some (19, 1) = some (_, _); rw [show ((d42_ ++ (d46_ ++ ([.slice none 0 0] ++ (d50_ ++ [.bool bw])))) : List Value).length = 19 from by simp only [List.length_append, List.length_cons, List.length_nil, Ld42_.out, Ld46_.out, Ld50_.out]]; first | done | rfl) (rfl) ?_; first | rfl | simp only [Instr.fill, aA, aN, aL])⟩) ?_ ?_; rotate_left; (· show Act.put _ (some _) _ = _; simp only [Act.put, s_A, s_0, s_1, i64_w]; try rfl)
   refine tre_l rfl (ev1_storepart rfl (by rfl) 58 _ _ rfl w1_.heap.size 0 c53_ [] Z58 [] rfl rfl (E.out.box 3 rfl) (by first | rfl | (simp only [aA, aN, aL]; first | done | rfl)) (rfl) (by rw [Lc53_.out]; rfl) (by rw [Lc53_.out]; kernel_rfl) Oc53_.out (fun W54_ hp hn => ?_))
   replace E := E.out.put2 3 hp hn (by have o := O.out; dsimp only [Off, OffA, Fct.box, Fct.made, List.set]; and_intros <;> first | trivial | omega); clear hp hn
   replace E := Aside0.mk (E.out.pick [(3, _), (0, _), (1, _), (2, _), (4, _), (5, _)] ⟨rfl, rfl, rfl, rfl, rfl, rfl, trivial⟩)
   refine tre_done ?_
   clear hHeld
   go_wp2_with fail
   go_meet
   exact ⟨w1_.heap.size, n43_, m44_, n47_, m48_, n51_, m52_, m52_, d42_, d46_, d50_, rfl, ⟨by have o := O.out; and_intros <;> omega⟩, ⟨by have e := E.out; simp only [List.map_cons, List.map_nil, aN, aL, Ec53_.out] at e; exact e⟩⟩
 case rest =>
  clear E O
  obtain ⟨g, n1, m1, n2, m2, n3, m3, t, dD, dM, dT, rfl, O, E⟩ := hcut
  have LdT := Aside0.mk (show dT.length = 11 from Kd.K_len _ (E.out.mk_ 1 rfl)); have OdT := Aside0.mk (one_of_K (E.out.mk_ 1 rfl))
  have LdM := Aside0.mk (show dM.length = 4 from Kd.K_len _ (E.out.mk_ 2 rfl)); have OdM := Aside0.mk (one_of_K (E.out.mk_ 2 rfl))
  have LdD := Aside0.mk (show dD.length = 2 from Kd.K_len _ (E.out.mk_ 3 rfl)); have OdD := Aside0.mk (one_of_K (E.out.mk_ 3 rfl))
  have E2 := Aside0.mk (E.out.add (Fct.made (Own.srow 118 k118) w.heap.size t t (fun _ => True) [] [.slice none 0 0]) (Nat.le_refl t) ⟨_, rfl, Kd.S_nil _ _ _ _ _⟩)
  clear E
  have T0 := Aside0.mk E2.out.le
  go_wp2_with fail
  go_loopg [4] (rs.length + 1) (fun kq v4 w' => ∃ (i u : Nat) (v : Value), v4 = .int .i64 (i : Int) ∧ Aside0 (kq + i = rs.length + 1) ∧ Aside0 (i ≤ rs.length) ∧ Aside0 (t ≤ u) ∧ Aside0 (Env w w' u [Fct.made (Own.srow 118 k118) w.heap.size t u (fun _ => True) (rs.take i) [v], Fct.box g (dD ++ (dM ++ ([v] ++ (dT ++ ([.bool bw] ++ [.bool bf])))) : List Value) 58, Fct.made kTxn w.heap.size n3 m3 (fun _ => True) (y, (l0, l1, l2, l3, l4, l5), n) dT, Fct.made k53 w.heap.size n2 m2 (fun _ => True) x dM, Fct.made kDisk w.heap.size n1 m1 (fun _ => True) (a0, a1) dD, Fct.box (w.heap.size + 1) Z58 58, Fct.box w.heap.size cs 58]))
  case atStart => exact ⟨0, t, _, rfl, ⟨by omega⟩, ⟨Nat.zero_le _⟩, ⟨Nat.le_refl _⟩, ⟨E2.out⟩⟩
  case round =>
   clear E2 T0
   obtain ⟨i, u, v, rfl, HQ, HI, HU, E⟩ := hrel
   obtain ⟨xs, hxs⟩ : ∃ xs, xs = rs.take i := ⟨_, rfl⟩
   rw [← hxs] at E
   have HX := Aside0.mk hxs
   clear hxs
   obtain ⟨Av, cv, hv, -⟩ := E.out.mk_ 0 rfl
   injection hv with hv
   subst hv
   replace O := Aside0.mk (And.intro HU.out O.out)
   by_cases hlt : i < rs.length
   ·have c1 : decide ((i : Int) < (rs.length : Int)) = true := decide_eq_true (by omega)
    have c0 : decide ((0 : Int) ≤ (i : Int)) = true := decide_eq_true (by omega)
    have c2 : ((i : Int) < (rs.length : Int)) = True := eq_true (by omega)
    have c3 : ((0 : Int) ≤ (i : Int)) = True := eq_true (by omega)
    cases gk with
    | zero => exact absurd HQ.out (by omega)
    | succ k1 =>
     obtain ⟨ad, A4, c4, hA, z0, z1, z2, z3, z4, hl4, hC4⟩ := at_T118 CR.out (i : Int) (by omega) (by omega)
     subst hA
     obtain ⟨el, hel⟩ : ∃ el, el = rd_T118 rs (i : Int) := ⟨_, rfl⟩
     have hel2 : el = rs[i] := by rw [hel]; simp [rd_T118, List.getD_eq_getElem?_getD, List.getElem?_eq_getElem hlt]
     rw [← hel] at z0 z1 z2 z3 z4 hl4 hC4
     simp only [Int.toNat_natCast] at z0 z1 z2 z3 z4
     have HE := Aside0.mk hel2
     have FE := Aside0.mk (show SmallM el.f1 from F3.out el (by rw [hel2]; exact List.getElem_mem hlt))
     have KE := Aside0.mk (show k53.K w el.f1 [.int .i64 el.f1.f0, .int .i64 el.f1.f1, .int .i64 el.f1.f2, .slice A4 el.f1.f3.length c4] from k53_mk w el.f1 hl4 hC4)
     have Z0 := Aside0.mk z0
     have Z1 := Aside0.mk (range4 z1 z2 z3 z4)
     clear hel hel2 hl4 hC4 z0 z1 z2 z3 z4
     go_upto_region 5 with (first | ((with_reducible refine gate_dst (N := 21) rfl ?_); refine ev_loadcell rfl 54 _ rfl w.heap.size 6 (cD ++ cM) (.slice (some ad) rs.length ccR) (cT ++ ([.bool bw] ++ [.bool bf])) rfl (E.out.box 6 rfl) (by rw [Ecs.out]; first | done | rfl | (simp only [aA, aN, aL]; first | done | rfl)) (by simp only [List.length_append, List.length_cons, List.length_nil, LD.out, LM.out]) Try.underlying54 rfl ?_))
     replace E := Aside0.mk E.out.drew
     refine tre_start l12Copy_ok5_1 (S := fun w' => w'.heap[g]? = some (.cells ((dD ++ (dM ++ ([.slice Av xs.length cv] ++ (dT ++ ([.bool bw] ++ [.bool bf]))))) : List Value).toArray 58 (0, 0)) ∧ w'.heap[w.heap.size]? = some (.cells (cs : List Value).toArray 58 (0, 0)) ∧ w'.cell? (ad.add (i * 5)) = some (.int .i64 el.f0) ∧ w'.rangeAt (ad.add (i * 5)).block ((ad.add (i * 5)).off + 1) [.int .i64 el.f1.f0, .int .i64 el.f1.f1, .int .i64 el.f1.f2, .slice A4 el.f1.f3.length c4] ∧ True) (by kernel_rfl) (fun _ _ _ _ h => h) ⟨(E.out.box 1 rfl), (E.out.box 6 rfl), (E.out.cell Z0.out), (E.out.range Z1.out), trivial⟩ (fun hHeld => ?_)
     generalize hq : World.drew _ = w55_ at hHeld ⊢; replace E := E.out.to hq; clear hq
     (refine tre_p (v := ?_) (a' := ?_) rfl rfl (Or.inl ⟨by rfl, ?_⟩) ?_ ?_; rotate_left; (· intro w'; go_simp; with_reducible rfl); rotate_left; (· show Act.put _ (some _) _ = _; simp only [Act.put, s_A, s_0, s_1, i64_w]; try rfl))
     refine tre_loadcell (a' := ?ax56_) rfl rfl (by rfl) 54 _ rfl g 6 (dD ++ dM) (.slice Av xs.length cv) (dT ++ ([.bool bw] ++ [.bool bf])) _ rfl (fun w' hs => hs.1) (by first | rfl | (simp only [aA, aN, aL]; first | done | rfl)) (by simp only [List.length_append, List.length_cons, List.length_nil, LdD.out, LdM.out]) Try.underlying54 rfl ?px56_ ?kx56_
     case px56_ => (show Act.put _ (some _) _ = _; simp only [Act.put, s_A, s_0, s_1, i64_w]; try rfl)
     (refine tre_p (v := ?_) (a' := ?_) rfl rfl (Or.inl ⟨by rfl, ?_⟩) ?_ ?_; rotate_left; (· intro w'; go_simp; with_reducible rfl); rotate_left; (· show Act.put _ (some _) _ = _; simp only [Act.put, s_A, s_0, s_1, i64_w]; try rfl))
     refine tre_loadcell (a' := ?ax57_) rfl rfl (by rfl) 54 _ rfl w.heap.size 6 (cD ++ cM) (.slice (some ad) rs.length ccR) (cT ++ ([.bool bw] ++ [.bool bf])) _ rfl (fun w' hs => hs.2.1) (by rw [Ecs.out]; first | done | rfl | (simp only [aA, aN, aL]; first | done | rfl)) (by simp only [List.length_append, List.length_cons, List.length_nil, LD.out, LM.out]) Try.underlying54 rfl ?px57_ ?kx57_
     case px57_ => (show Act.put _ (some _) _ = _; simp only [Act.put, s_A, s_0, s_1, i64_w]; try rfl)
     iterate 3 (refine tre_p (v := ?_) (a' := ?_) rfl rfl (Or.inl ⟨by rfl, ?_⟩) ?_ ?_; rotate_left; (· intro w'; go_simp; with_reducible rfl); rotate_left; (· show Act.put _ (some _) _ = _; simp only [Act.put, s_A, s_0, s_1, i64_w]; try rfl))
     refine tre_loadat (a' := ?al0) rfl rfl (by rfl) 3 _ rfl (ad.add (i * 5)) (.int .i64 el.f0) _ (by first | rfl | (simp; rfl)) (fun w' hs => hs.2.2.1) Try.underlying3 rfl ?pl0 ?kl0
     case pl0 => (show Act.put _ (some _) _ = _; simp only [Act.put, s_A, s_0, s_1, i64_w]; try rfl)
     (refine tre_p (v := ?_) (a' := ?_) rfl rfl (Or.inl ⟨by rfl, ?_⟩) ?_ ?_; rotate_left; (· intro w'; go_simp; with_reducible rfl); rotate_left; (· show Act.put _ (some _) _ = _; simp only [Act.put, s_A, s_0, s_1, i64_w]; try rfl))
     refine tre_loadcell (a' := ?ax58_) rfl rfl (by rfl) 54 _ rfl w.heap.size 6 (cD ++ cM) (.slice (some ad) rs.length ccR) (cT ++ ([.bool bw] ++ [.bool bf])) _ rfl (fun w' hs => hs.2.1) (by rw [Ecs.out]; first | done | rfl | (simp only [aA, aN, aL]; first | done | rfl)) (by simp only [List.length_append, List.length_cons, List.length_nil, LD.out, LM.out]) Try.underlying54 rfl ?px58_ ?kx58_
     case px58_ => (show Act.put _ (some _) _ = _; simp only [Act.put, s_A, s_0, s_1, i64_w]; try rfl)
     iterate 3 (refine tre_p (v := ?_) (a' := ?_) rfl rfl (Or.inl ⟨by rfl, ?_⟩) ?_ ?_; rotate_left; (· intro w'; go_simp; with_reducible rfl); rotate_left; (· show Act.put _ (some _) _ = _; simp only [Act.put, s_A, s_0, s_1, i64_w]; try rfl))
     refine tre_loadrange (a' := ?al1) rfl rfl (by rfl) 53 _ rfl (ad.add (i * 5)).block ((ad.add (i * 5)).off + 1) [.int .i64 el.f1.f0, .int .i64 el.f1.f1, .int .i64 el.f1.f2, .slice A4 el.f1.f3.length c4] _ (by first | rfl | (simp; rfl)) (fun w' hs => hs.2.2.2.1) Try.underlying53 rfl (by kernel_rfl) ?pl1 ?kl1
     case pl1 => (show Act.put _ (some _) _ = _; simp only [Act.put, s_A, s_0, s_1, i64_w]; try rfl)
     refine tre_e rfl (ev1_call rfl Try.func87 (by kernel_rfl) rfl #[.agg [.int .i64 el.f1.f0, .int .i64 el.f1.f1, .int .i64 el.f1.f2, .slice A4 el.f1.f3.length c4].toArray] (by rfl) rfl (by (try simp only [List.map_toArray, List.map_cons, List.map_nil]); first | done | rfl) ?_)
     with_reducible refine (l06Copy_o el.f1 el.f1 _ (E.out.K KE.out) ⟨rfl, FE.out⟩).mono ?_
     rintro e w59_ ⟨d60_, rfl, Md60_, hb⟩
     have q := E.out.made4 O.out 4 rfl Md60_ hb; clear O E Md60_ hb; obtain ⟨n61_, m62_, Ld60_, Od60_, O, E⟩ := q
     refine ⟨_, rfl, ⟨(E.out.box 2 rfl), (E.out.box 7 rfl), (E.out.cell Z0.out), (E.out.range Z1.out), trivial⟩, (fun hHeld => ?_)⟩
     refine tre_norm (a' := ?_) ?_ ?_; rotate_left; (· show Act.put _ (some 40) _ = _; simp only [Act.put, s_A, s_0, s_1, i64_w]; try rfl)
     obtain ⟨c63_, Ec63_, Lc63_, Oc63_⟩ := lump_ ([.int .i64 el.f0] ++ d60_) 5 (by simp only [List.length_append, List.length_cons, List.length_nil, Ld60_.out]) (ones_app (ones1 rfl) Od60_.out)
     refine tre_p (v := .agg c63_.toArray) (a' := ?_) rfl rfl (Or.inl ⟨by rfl, run_build 118 _ rfl Z118 (fun w => by kernel_rfl) _ Try.underlying118 #[(0, 1), (1, 4)] (fun w => by kernel_rfl) [(0, .int .i64 el.f0), (1, .agg d60_.toArray)] (by first | rfl | (simp only [List.map_toArray, List.map_cons, List.map_nil]; rfl)) c63_ (by rw [Ec63_.out]; refine fill_seg (new := [.int .i64 el.f0]) (pre := []) (mid := [.int .i64 0]) (post := [.int .i64 0, .int .i64 0, .int .i64 0, .slice none 0 0]) rfl (by first | rfl | (simp only [aA, aN, aL]; first | done | rfl)) (rfl) (rfl) ?_; refine fill_seg (new := d60_) (pre := [.int .i64 el.f0]) (mid := [.int .i64 0, .int .i64 0, .int .i64 0, .slice none 0 0]) (post := []) rfl (by first | rfl | (simp only [aA, aN, aL]; first | done | rfl)) (by show some (1, 4) = some (_, _); rw [show (d60_ : List Value).length = 4 from Ld60_.out]; first | done | rfl) (by rw [Ld60_.out]; rfl) ?_; first | rfl | simp only [Instr.fill, aA, aN, aL])⟩) ?_ ?_; rotate_left; (· show Act.put _ (some _) _ = _; simp only [Act.put, s_A, s_0, s_1, i64_w]; try rfl)
     refine tre_e rfl (ev1_lit1 rfl (by rfl) 54 118 _ rfl Try.underlying54 Z118 (by kernel_rfl) (by kernel_rfl) (by kernel_rfl) (by decide) (by decide) c63_ rfl Lc63_.out ?_)
     refine ⟨⟨blk_alloc (E.out.box 2 rfl) _, blk_alloc (E.out.box 7 rfl) _, (E.out.alloc _ _ rfl).cell Z0.out, (E.out.alloc _ _ rfl).range Z1.out, trivial⟩, (fun hHeld => ?_)⟩
     refine tre_norm (a' := ?_) ?_ ?_; rotate_left; (· show Act.put _ (some 42) _ = _; simp only [Act.put, s_A, s_0, s_1, i64_w]; try rfl)
     refine tre_e rfl (ev1_append E.out rfl (by rfl) _ _ 54 118 (.agg #[.int .i64 0, .int .i64 0, .int .i64 0, .int .i64 0, .slice none 0 0]) 56 rfl k118 Try.underlying54 info118 rfl (by decide) (by decide) 1 rfl (p := el) (fun k => False ∨ (True ∧ Iv n61_ m62_ k)) (by rw [Ec63_.out]; exact el_M (E.out.made 0 rfl)) (fun k hk => by have o := O.out; simp only [Iv, false_or, true_and] at hk; omega) (by have o := O.out; omega) (by have o := O.out; omega) rfl rfl (by have := FL.out; have h2 := List.length_take_le i rs; rw [← HX.out] at h2; omega) (by have o := O.out; simp only [Off2, Off2.Off2A, Fct.box, Fct.made]; and_intros <;> first | trivial | omega) (fun v_ w65_ m64_ hm hE => ?_))
     have O2 := Aside0.mk hm
     replace E := Aside0.mk hE
     clear hm hE
     obtain ⟨Ab, cb, hvb, -⟩ := E.out.mk_ 1 rfl
     injection hvb with hvb
     subst hvb
     obtain ⟨nn, hnn⟩ : ∃ m, m = (xs ++ [el]).length := ⟨_, rfl⟩
     simp only [← hnn] at E ⊢
     refine ⟨⟨(E.out.box 2 rfl), (E.out.box 7 rfl), (E.out.cell Z0.out), (E.out.range Z1.out), trivial⟩, (fun hHeld => ?_)⟩
     refine tre_norm (a' := ?_) ?_ ?_; rotate_left; (· show Act.put _ (some 43) _ = _; simp only [Act.put, s_A, s_0, s_1, i64_w]; try rfl)
     replace O := Aside0.mk (And.intro O2.out O.out)
     (refine tre_p (v := ?_) (a' := ?_) rfl rfl (Or.inl ⟨by rfl, ?_⟩) ?_ ?_; rotate_left; (· intro w'; go_simp; with_reducible rfl); rotate_left; (· show Act.put _ (some _) _ = _; simp only [Act.put, s_A, s_0, s_1, i64_w]; try rfl))
     refine tre_l rfl (ev1_storecell rfl (by rfl) 54 _ _ rfl g 6 (.slice Ab nn cb) (.slice Av xs.length cv) (dD ++ dM) (dT ++ ([.bool bw] ++ [.bool bf])) rfl rfl (E.out.box 2 rfl) (by first | rfl | (simp only [aA, aN, aL]; first | done | rfl)) (by simp only [List.length_append, List.length_cons, List.length_nil, LdD.out, LdM.out]) (by kernel_rfl) rfl rfl (fun W66_ hp hn => ?_))
     replace E := E.out.put2 2 hp hn (by have o := O.out; dsimp only [Off, OffA, Fct.box, Fct.made, List.set]; and_intros <;> first | trivial | omega); clear hp hn
     refine tre_done ?_
     clear hHeld
     go_wp2
     go_roundg k1
     case measure => omega
     have hxs : rs.take (i + 1) = xs ++ [el] := by rw [List.take_succ_eq_append_getElem hlt, ← HE.out, ← HX.out]
     case rel => exact ⟨i + 1, m64_, _, by rw [show wrap64 ((i : Int) + 1) = ((i + 1 : Nat) : Int) by unfold wrap64; have := FL.out; omega], ⟨by have := HQ.out; omega⟩, ⟨by omega⟩, ⟨by have o := O.out; omega⟩, ⟨by rw [hxs]; have e := E.out.pick [(1, _), (2, _), (3, _), (4, _), (5, _), (6, _), (7, _)] ⟨rfl, rfl, rfl, rfl, rfl, rfl, rfl, trivial⟩; simp only [List.map_cons, List.map_nil, aA, aN, aL] at e ⊢; exact e⟩⟩
   ·have c1 : decide ((i : Int) < (rs.length : Int)) = false := decide_eq_false (by omega)
    have hi : i = rs.length := by have := HI.out; omega
    have hx := HX.out.symm
    rw [hi, List.take_length] at hx
    subst hx
    obtain ⟨c67_, Ec67_, Lc67_, Oc67_⟩ := lump_ (dD ++ (dM ++ ([.slice Av rs.length cv] ++ (dT ++ ([.bool bw] ++ [.bool bf]))))) 20 (by simp only [List.length_append, List.length_cons, List.length_nil, LdD.out, LdM.out, LdT.out]) (ones_app OdD.out (ones_app OdM.out (ones_app (ones1 rfl) (ones_app OdT.out (ones_app (ones1 rfl) (ones1 rfl))))))
    go_wp2_with (first | ((with_reducible refine gate_dst (N := 21) rfl ?_); refine ev_loadcell rfl 54 _ rfl w.heap.size 6 (cD ++ cM) (.slice AR rs.length ccR) (cT ++ ([.bool bw] ++ [.bool bf])) rfl (E.out.box 6 rfl) (by rw [Ecs.out]; first | done | rfl | (simp only [aA, aN, aL]; first | done | rfl)) (by simp only [List.length_append, List.length_cons, List.length_nil, LD.out, LM.out]) Try.underlying54 rfl ?_) | ((with_reducible refine gate_dst (N := 45) rfl ?_); refine ev_loadpart rfl 58 _ rfl g 0 [] c67_ [] _ rfl (E.out.box 1 rfl) (by rw [Ec67_.out]; first | done | rfl | (simp only [aA, aN, aL]; first | done | rfl)) (rfl) Try.underlying58 rfl (by rw [Lc67_.out]; kernel_rfl) ?_) | ((with_reducible refine gate_store (t := 58) (p := 2) rfl ?_); refine ev_storepart rfl 58 _ _ rfl rfl (w.heap.size + 1) 0 c67_ [] Z58 [] rfl rfl (E.out.box 5 rfl) (by first | rfl | (simp only [aA, aN, aL]; first | done | rfl)) (rfl) (by rw [Lc67_.out]; rfl) (by rw [Lc67_.out]; kernel_rfl) Oc67_.out ?_; intro W68_ hp hn; replace E := E.out.put2 5 hp hn (by have o := O.out; dsimp only [Off, OffA, Fct.box, Fct.made, List.set]; and_intros <;> first | trivial | omega); clear hp hn))
    have BX := Aside0.mk (show _ = some (Obj.cells (c67_ : List Value).toArray 58 (0, 0)) from by first | exact (E.out.box 5 rfl) | simpa only [aA, aN, aL] using (E.out.box 5 rfl))
    refine bodyPost_ret (oresults_c rfl _ _ (w.heap.size + 1) 58 _ _ _ rfl BX.out Try.underlying58 rfl (by rw [List.size_toArray, show (c67_ : List Value).length = 20 from Lc67_.out]; kernel_rfl)) rfl ?_
    exact ⟨_, rfl, (by rw [Ec67_.out]; exact fresh (d := kStore) (comb (E.out.made 4 rfl) (comb (E.out.made 3 rfl) (comb (E.out.made 0 rfl) (comb (E.out.made 2 rfl) (comb Mbool Mbool (fun k h1 h2 => by have o := O.out; (try simp only [Iv, true_and, or_false, false_or] at h1 h2) <;> omega)) (fun k h1 h2 => by have o := O.out; (try simp only [Iv, true_and, or_false, false_or] at h1 h2) <;> omega)) (fun k h1 h2 => by have o := O.out; (try simp only [Iv, true_and, or_false, false_or] at h1 h2) <;> omega)) (fun k h1 h2 => by have o := O.out; (try simp only [Iv, true_and, or_false, false_or] at h1 h2) <;> omega)) (fun k h1 h2 => by have o := O.out; (try simp only [Iv, true_and, or_false, false_or] at h1 h2) <;> omega)) (Nat.le_refl _)), E.out.below⟩
def laws_heldReaderS.l0 : Nat → List (S118) → Int → Int → Option (Int)
 | 0, _, _, _ => none
 | k + 1, x0, x1, x5 => if x5 < (x0.length : Int) then (if 0 ≤ x5 then (if ((rd_T118 x0 x5).f0) = x1 then (if ((rd_T118 x0 x5).f1.f0) = (wrap64 (x1 + 1)) then (if ((rd_T118 x0 x5).f1.f1) = (wrap64 ((wrap64 (x1 + 1)) + 1)) then (if ((rd_T118 x0 x5).f1.f2) = (wrap64 ((wrap64 ((wrap64 (x1 + 1)) + 1)) + 1)) then ((laws_heldFreeS.f k ((rd_T118 x0 x5).f1.f3) (wrap64 ((wrap64 ((wrap64 ((wrap64 (x1 + 1)) + 1)) + 1)) + 1))).bind fun t188 => (if t188 < 0 then (none) else (laws_heldReaderS.l0 k x0 t188 (wrap64 (x5 + 1))))) else (none)) else (none)) else (none)) else (none)) else (none)) else (some x1)
def laws_heldReaderS.f (k : Nat) (l0 : List (S118)) (a1 : Int) : Option (Int) := laws_heldReaderS.l0 k l0 a1 0
theorem laws_heldReaderS.calls (k : Nat) (A0 : Option Addr) (c0 : Nat) (l0 : List (S118)) (a1 : Int) (r : Int) (w : World) (hr0 : Kd.C k118 w A0 l0.length l0) (hc0 : l0.length ≤ c0) (h : laws_heldReaderS.f k l0 a1 = some r) :
  Calls Try.prog 74 #[.slice A0 l0.length c0, .int .i64 a1] w fun e w' => e = .returned (.int .i64 r) ∧ Drawn0 w w' := by
 have HR0 := Aside0.mk hr0
 have HC0 := Aside0.mk hc0
 clear hr0 hc0
 have H : (laws_heldReaderS.l0 k l0 a1 0) = some r := h
 clear h
 have H' := Aside0.mk H
 clear H
 go_enter Try.func74, Try.ntmps74
 go_wp2
 go_loopg [1, 5] k (fun kq v1 v5 w' => ∃ (x1_1 : Int) (x5_1 : Int), v1 = .int .i64 x1_1 ∧ v5 = .int .i64 x5_1 ∧ Aside0 (laws_heldReaderS.l0 kq l0 x1_1 x5_1 = some r) ∧ Aside0 (kq ≤ k) ∧ Drawn0 w w')
 case atStart => exact ⟨(a1), (0), (by first | rfl | (simp; done) | (simp [*]; done)), (by first | rfl | (simp; done) | (simp [*]; done)), H', ⟨Nat.le_refl _⟩, by repeat (first | exact Drawn0.refl _ | apply Drawn0.step)⟩
 case round =>
  clear H'
  obtain ⟨x1_1, x5_1, rfl, rfl, HA, HK1, ⟨m1, rfl⟩⟩ := hrel
  cases gk with
  | zero => exact absurd HA.out (by simp [laws_heldReaderS.l0])
  | succ k1 =>
   have H := HA.out
   clear HA
   simp only [laws_heldReaderS.l0] at H
   by_cases c3 : x5_1 < (l0.length : Int)
   ·rw [if_pos c3] at H
    have c3b0 : decide (x5_1 < (l0.length : Int)) = true := decide_eq_true c3
    clear c3
    by_cases c4 : 0 ≤ x5_1
    ·rw [if_pos c4] at H
     have c4b0 : decide (0 ≤ x5_1) = true := decide_eq_true c4
     clear c4
     by_cases c5 : ((rd_T118 l0 x5_1).f0) = x1_1
     ·rw [if_pos c5] at H
      have c5b0 : (((rd_T118 l0 x5_1).f0) == x1_1) = true := beq_iff_eq.mpr c5
      have c5b1 : (((rd_T118 l0 x5_1).f0) != x1_1) = false := bne_eq_false_iff_eq.mpr c5
      clear c5
      by_cases c6 : ((rd_T118 l0 x5_1).f1.f0) = (wrap64 (x1_1 + 1))
      ·rw [if_pos c6] at H
       have c6b0 : (((rd_T118 l0 x5_1).f1.f0) == (wrap64 (x1_1 + 1))) = true := beq_iff_eq.mpr c6
       have c6b1 : (((rd_T118 l0 x5_1).f1.f0) != (wrap64 (x1_1 + 1))) = false := bne_eq_false_iff_eq.mpr c6
       clear c6
       by_cases c7 : ((rd_T118 l0 x5_1).f1.f1) = (wrap64 ((wrap64 (x1_1 + 1)) + 1))
       ·rw [if_pos c7] at H
        have c7b0 : (((rd_T118 l0 x5_1).f1.f1) == (wrap64 ((wrap64 (x1_1 + 1)) + 1))) = true := beq_iff_eq.mpr c7
        have c7b1 : (((rd_T118 l0 x5_1).f1.f1) != (wrap64 ((wrap64 (x1_1 + 1)) + 1))) = false := bne_eq_false_iff_eq.mpr c7
        clear c7
        by_cases c8 : ((rd_T118 l0 x5_1).f1.f2) = (wrap64 ((wrap64 ((wrap64 (x1_1 + 1)) + 1)) + 1))
        ·rw [if_pos c8] at H
         have c8b0 : (((rd_T118 l0 x5_1).f1.f2) == (wrap64 ((wrap64 ((wrap64 (x1_1 + 1)) + 1)) + 1))) = true := beq_iff_eq.mpr c8
         have c8b1 : (((rd_T118 l0 x5_1).f1.f2) != (wrap64 ((wrap64 ((wrap64 (x1_1 + 1)) + 1)) + 1))) = false := bne_eq_false_iff_eq.mpr c8
         clear c8
         replace H := Option.bind_eq_some_iff.mp H
         obtain ⟨t188, A90, H⟩ := H
         replace H : (if t188 < 0 then (none) else (laws_heldReaderS.l0 k1 l0 t188 (wrap64 (x5_1 + 1)))) = some r := H
         have A9 := Aside0.mk A90
         clear A90
         by_cases c10 : t188 < 0
         ·rw [if_pos c10] at H
          exact absurd H (by simp)
         ·rw [if_neg c10] at H
          have c10b0 : decide (t188 < 0) = false := decide_eq_false c10
          clear c10
          have H' := Aside0.mk H
          clear H
          have p183 : 0 ≤ (x5_1 : Int) := of_decide_eq_true (by with_reducible assumption)
          have q183 : x5_1 < (l0.length : Int) := of_decide_eq_true (by with_reducible assumption)
          obtain ⟨ad183, A183_4, c183_4, e183, hx183_0, hx183_1, hx183_2, hx183_3, hx183_4, hl183_4, hi183_4⟩ := at_T118 HR0.out x5_1 p183 q183
          cases e183
          have HR183_4 := Aside0.mk hi183_4
          have HC183_4 := Aside0.mk hl183_4
          clear hi183_4 hl183_4
          replace p183 := eq_true p183
          replace q183 := eq_true q183
          have p184 : 0 ≤ (x5_1 : Int) := of_decide_eq_true (by with_reducible assumption)
          have q184 : x5_1 < (l0.length : Int) := of_decide_eq_true (by with_reducible assumption)
          obtain ⟨ad184, A184_4, c184_4, e184, hx184_0, hx184_1, hx184_2, hx184_3, hx184_4, hl184_4, hi184_4⟩ := at_T118 HR0.out x5_1 p184 q184
          obtain rfl : ad183 = ad184 := (by injection e184)
          have HR184_4 := Aside0.mk hi184_4
          have HC184_4 := Aside0.mk hl184_4
          clear hi184_4 hl184_4
          replace p184 := eq_true p184
          replace q184 := eq_true q184
          have ea_ := Option.some.inj (hx183_4.symm.trans hx184_4)
          injection ea_ with ea_ en_ ec_
          subst ea_
          subst ec_
          clear en_
          have p185 : 0 ≤ (x5_1 : Int) := of_decide_eq_true (by with_reducible assumption)
          have q185 : x5_1 < (l0.length : Int) := of_decide_eq_true (by with_reducible assumption)
          obtain ⟨ad185, A185_4, c185_4, e185, hx185_0, hx185_1, hx185_2, hx185_3, hx185_4, hl185_4, hi185_4⟩ := at_T118 HR0.out x5_1 p185 q185
          obtain rfl : ad183 = ad185 := (by injection e185)
          have HR185_4 := Aside0.mk hi185_4
          have HC185_4 := Aside0.mk hl185_4
          clear hi185_4 hl185_4
          replace p185 := eq_true p185
          replace q185 := eq_true q185
          have ea_ := Option.some.inj (hx183_4.symm.trans hx185_4)
          injection ea_ with ea_ en_ ec_
          subst ea_
          subst ec_
          clear en_
          have p186 : 0 ≤ (x5_1 : Int) := of_decide_eq_true (by with_reducible assumption)
          have q186 : x5_1 < (l0.length : Int) := of_decide_eq_true (by with_reducible assumption)
          obtain ⟨ad186, A186_4, c186_4, e186, hx186_0, hx186_1, hx186_2, hx186_3, hx186_4, hl186_4, hi186_4⟩ := at_T118 HR0.out x5_1 p186 q186
          obtain rfl : ad183 = ad186 := (by injection e186)
          have HR186_4 := Aside0.mk hi186_4
          have HC186_4 := Aside0.mk hl186_4
          clear hi186_4 hl186_4
          replace p186 := eq_true p186
          replace q186 := eq_true q186
          have ea_ := Option.some.inj (hx183_4.symm.trans hx186_4)
          injection ea_ with ea_ en_ ec_
          subst ea_
          subst ec_
          clear en_
          have p187 : 0 ≤ (x5_1 : Int) := of_decide_eq_true (by with_reducible assumption)
          have q187 : x5_1 < (l0.length : Int) := of_decide_eq_true (by with_reducible assumption)
          obtain ⟨ad187, A187_4, c187_4, e187, hx187_0, hx187_1, hx187_2, hx187_3, hx187_4, hl187_4, hi187_4⟩ := at_T118 HR0.out x5_1 p187 q187
          obtain rfl : ad183 = ad187 := (by injection e187)
          have HR187_4 := Aside0.mk hi187_4
          have HC187_4 := Aside0.mk hl187_4
          clear hi187_4 hl187_4
          replace p187 := eq_true p187
          replace q187 := eq_true q187
          have ea_ := Option.some.inj (hx183_4.symm.trans hx187_4)
          injection ea_ with ea_ en_ ec_
          subst ea_
          subst ec_
          clear en_
          go_wp2_with (first | ((with_reducible refine gate_callee (f := 102) rfl ?_); refine goesL_ (some 58) rfl rfl Try.func102 (by kernel_rfl) rfl #[.slice A183_4 ((rd_T118 l0 x5_1).f1.f3).length c183_4, .int .i64 (wrap64 ((wrap64 ((wrap64 ((wrap64 (x1_1 + 1)) + 1)) + 1)) + 1))] rfl (by (try simp only [List.map_toArray, List.map_cons, List.map_nil]); first | done | rfl | (simp only [List.length_drop, List.length_take]; rfl)) ?_; (with_reducible refine (laws_heldFreeS.calls k1 _ _ ((rd_T118 l0 x5_1).f1.f3) (wrap64 ((wrap64 ((wrap64 ((wrap64 (x1_1 + 1)) + 1)) + 1)) + 1)) t188 _ ?side1 ?side2 A9.out).mono ?_); (case side1 => repeat (first | exact HR187_4.out | (with_reducible refine Kd.C_alloc ?_ _) | (with_reducible refine Kd.C_drewN ?_ _) | (with_reducible refine Kd.C_drew ?_))); (case side2 => exact HC187_4.out); rintro e w' ⟨rfl, ⟨nd, rfl⟩⟩; refine ⟨_, rfl, ?_⟩))
          go_roundg k1
          case measure => have := HK1.out; omega
          case rel => exact ⟨(t188), (wrap64 (x5_1 + 1)), (by first | rfl | (simp; done) | (simp [*]; done)), (by first | rfl | (simp; done) | (simp [*]; done)), H', ⟨by have := HK1.out; omega⟩, by repeat (first | exact Drawn0.refl _ | apply Drawn0.step)⟩
        ·rw [if_neg c8] at H
         exact absurd H (by simp)
       ·rw [if_neg c7] at H
        exact absurd H (by simp)
      ·rw [if_neg c6] at H
       exact absurd H (by simp)
     ·rw [if_neg c5] at H
      exact absurd H (by simp)
    ·rw [if_neg c4] at H
     exact absurd H (by simp)
   ·rw [if_neg c3] at H
    have c3b0 : decide (x5_1 < (l0.length : Int)) = false := decide_eq_false c3
    clear c3
    obtain rfl := Option.some.inj H
    go_wp2
    go_ret
    exact ⟨by first | rfl | (simp; done) | (simp [*]; done), by repeat (first | exact Drawn0.refl _ | apply Drawn0.step)⟩
end Go.Proofs.Ytonhdiemjgdcnaa.PFnExactGivePage
