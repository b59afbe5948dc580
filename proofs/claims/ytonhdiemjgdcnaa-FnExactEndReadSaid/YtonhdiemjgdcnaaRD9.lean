import Derived.Test.YtonhdiemjgdcnaaRD8
set_option maxHeartbeats 64000000
set_option maxRecDepth 100000
set_option linter.unusedVariables false
set_option linter.unusedSimpArgs false
namespace Go.Proofs.Ytonhdiemjgdcnaa.PFnExactGivePage
open Go.RowKit Go.Proofs.YtonhdiemjgdcnaaW.PrintWords Go.Proofs.YtonhdiemjgdcnaaW.PrintLast Go.Proofs.YtonhdiemjgdcnaaW.PrintMore
attribute [local go_sem] max2_int min2_int max_two min_two max_three min_three max_four min_four
theorem kDiskL_lit {w : World} {l0 : List ByteArray} {l1 : List S140} {a b : Value} (h0 : (Own.srow 9 Kd.string).K w l0 [a]) (h1 : (Own.srow 140 k140).K w l1 [b]) : kDiskL.K w (l0, l1) [a, b] := Kpair h0 h1
theorem made_of_R {α : Type} {d : Kd α} (hE : d.E = []) {e : Nat} {w w' : World} {v : Value} {xs : List α} {ok : Nat → Prop} (h : d.R e w' w.heap.size ok v xs) : (Own.srow e d).M w' w.heap.size (Fr w w') xs [v] :=
 (Own.srow e d).M_mono (fun k hk => ⟨Kd.R_base h k hk.symm, Kd.R_lt h k hk.symm⟩) (Own.srow_of_R hE h)
theorem cloneDisk_c (z : (List ByteArray × List S135)) {cs : List Value} (w : World) (h : kDisk.K w z cs) (hl : z.1.length ≤ 2000000 ∧ z.2.length ≤ 2000000) :
  Calls Try.prog 69 #[.agg cs.toArray] w fun e w' => ∃ ds : List Value, e = .returned (.agg ds.toArray) ∧ kDisk.M w' w.heap.size (Fr w w') z ds ∧ Below w.heap.size w w' := by
 obtain ⟨l0, l1⟩ := z
 obtain ⟨A0, c0, A1, c1, rfl, m0, r0, m1, r1⟩ := kDisk_open h
 refine (impl_cloneDisk.calls A0 c0 l0 A1 c1 l1 l0 l1 w r0 m0 r1 m1 (by
  have h1 : l0.length ≤ 2000000 := hl.1
  have h2 : l1.length ≤ 2000000 := hl.2
  unfold impl_cloneDisk.f slices_Clone_string_string.f impl_Put.f
  rw [if_pos (by omega), if_pos (by omega)]
  rfl)).mono ?_
 rintro e w' ⟨v0, v1, rfl, R0, R1, hb⟩
 have T0 := Own.R_tightB rfl R0
 have T1 := Own.R_tightB rfl R1
 exact ⟨[v0, v1], rfl, kDisk_mkM T0.1 T1.1 T0.2.1 T1.2.1 (Own.types_ne T0.2.2 T1.2.2 (by decide)), hb⟩
theorem cloneInts_c (z : List Int) {v : Value} (w : World) (h : (Own.arow 3 (Kd.int .i64)).K w z [v]) (hl : z.length ≤ 2000000) :
  Calls Try.prog 95 #[v] w fun e w' => ∃ u : Value, e = .returned u ∧ (Own.srow 3 (Kd.int .i64)).M w' w.heap.size (Fr w w') z [u] ∧ Below w.heap.size w w' := by
 obtain ⟨A, c, hv, m, r⟩ := h
 injection hv with hv
 subst hv
 refine (slices_Clone_int_int.calls A c z z w r m (by unfold slices_Clone_int_int.f; rw [if_pos (by omega)])).mono ?_
 rintro e w' ⟨u, rfl, R, hb⟩
 exact ⟨u, rfl, made_of_R rfl R, hb⟩
def cloneWork_c_T1 : Bool × List (List Nat × List Nat) := (true, [([], []), ([0], [0]), ([1], [1]), ([], []), ([3], [3]), ([], []), ([5], [5]), ([6, 2], [6]), ([], []), ([8], [8]), ([9, 7], [9]), ([], []), ([11], [11]), ([12, 10], [12]), ([2, 4, 7, 10, 13], [2, 4, 7, 10, 13]), ([14, 13, 0, 1, 2, 3, 4, 5, 6, 7, 8, 9, 10, 11, 12, 13, 14], [14])])
def cloneWork_c_B1 : List Nat := [0, 1, 3, 0, 8, 0, 32, 103, 0, 256, 999, 0, 2048, 8167, 16383, 32767]
theorem cloneWork_c_ok1_0 : regT (opsOf Try.f49 1) cloneWork_c_T1 cloneWork_c_B1 [] (.p 0 (.t 1 (.p 3 (.t 4 (.p 5 (.t 6 (.p 8 (.t 9 (.p 11 (.t 12 (.e 2 (.e 7 (.e 10 (.e 13 (.p 14 (.e 15 .d)))))))))))))))) = true := by kernel_rfl
theorem cloneWork_c (z : (List ByteArray × List S135 × Int × List Int × List Int × List Int)) {cs : List Value} (w : World) (h : kWork.K w z cs) (hl : ((z.1).length ≤ 2000000 ∧ (z.2.1).length ≤ 2000000) ∧ (z.2.2.2.1).length ≤ 2000000 ∧ (z.2.2.2.2.1).length ≤ 2000000 ∧ (z.2.2.2.2.2).length ≤ 2000000) :
  Calls Try.prog 49 #[.agg cs.toArray] w fun e w' => ∃ ds : List Value, e = .returned (.agg ds.toArray) ∧ kWork.M w' w.heap.size (Fr w w') z ds ∧ Below w.heap.size w w' := by
 have hwp := h
 obtain ⟨cp0, _, rfl, hp0, cp1, _, rfl, hp1, cp2, _, rfl, hp2, cp3, _, rfl, hp3, cp4, cp5, rfl, hp4, hp5⟩ := h
 have gp0 := hp0; obtain ⟨A_, k_, rfl, -, -⟩ := hp0; obtain ⟨vp0, hv⟩ : ∃ v, v = Value.slice A_ (z.1).length k_ := ⟨_, rfl⟩; rw [← hv] at gp0 hwp ⊢; clear hv
 have gp1 := hp1; obtain ⟨A_, k_, rfl, -, -⟩ := hp1; obtain ⟨vp1, hv⟩ : ∃ v, v = Value.slice A_ (z.2.1).length k_ := ⟨_, rfl⟩; rw [← hv] at gp1 hwp ⊢; clear hv
 obtain rfl : cp2 = [.int .i64 z.2.2.1] := hp2
 have gp3 := hp3; obtain ⟨A_, k_, rfl, -, -⟩ := hp3; obtain ⟨vp3, hv⟩ : ∃ v, v = Value.slice A_ (z.2.2.2.1).length k_ := ⟨_, rfl⟩; rw [← hv] at gp3 hwp ⊢; clear hv
 have gp4 := hp4; obtain ⟨A_, k_, rfl, -, -⟩ := hp4; obtain ⟨vp4, hv⟩ : ∃ v, v = Value.slice A_ (z.2.2.2.2.1).length k_ := ⟨_, rfl⟩; rw [← hv] at gp4 hwp ⊢; clear hv
 have gp5 := hp5; obtain ⟨A_, k_, rfl, -, -⟩ := hp5; obtain ⟨vp5, hv⟩ : ∃ v, v = Value.slice A_ (z.2.2.2.2.2).length k_ := ⟨_, rfl⟩; rw [← hv] at gp5 hwp ⊢; clear hv
 obtain ⟨ep, he⟩ : ∃ cs, cs = [vp0] ++ ([vp1] ++ ([.int .i64 z.2.2.1] ++ ([vp3] ++ ([vp4] ++ ([vp5]))))) := ⟨_, rfl⟩; rw [← he] at hwp ⊢; have Ep := Aside0.mk he; have Wp := Aside0.mk hwp; have Np := Aside0.mk (show ep.length = 6 from Kd.K_len _ hwp); clear he hwp
 have Kp0 := Aside0.mk gp0; clear gp0
 have Kp1 := Aside0.mk gp1; clear gp1
 have Kp3 := Aside0.mk gp3; clear gp3
 have Kp4 := Aside0.mk gp4; clear gp4
 have Kp5 := Aside0.mk gp5; clear gp5
 have F0 := Aside0.mk hl.1; have F3 := Aside0.mk hl.2.1; have F4 := Aside0.mk hl.2.2.1; have F5 := Aside0.mk hl.2.2.2; clear hl
 have O := Aside0.mk (Nat.le_refl w.heap.size)
 have E := Aside0.mk (Env.start w)
 go_enter Try.func49, Try.ntmps49
 go_upto_region 1 with (fail)
 replace O := Aside0.mk (And.intro E.out.le O.out)
 replace E := Aside0.mk (E.out.alloc ep 34 (g := w.heap.size) rfl)
 replace E := Aside0.mk (E.out.alloc Z34 34 (g := (w.heap.size + 1)) (by simp))
 replace E := Aside0.mk E.out.drew
 refine tre_start cloneWork_c_ok1_0 (S := fun w' => w'.heap[w.heap.size]? = some (.cells (ep : List Value).toArray 34 (0, 0)) ∧ True) (by kernel_rfl) (fun _ _ _ _ h => h) ⟨(E.out.box 1 rfl), trivial⟩ (fun hHeld => ?_)
 generalize hq : World.drew _ = w1_ at hHeld ⊢; replace E := E.out.to hq; clear hq
 (refine tre_p (v := ?_) (a' := ?_) rfl rfl (Or.inl ⟨by rfl, ?_⟩) ?_ ?_; rotate_left; (· intro w'; go_simp; with_reducible rfl); rotate_left; (· show Act.put _ (some _) _ = _; simp only [Act.put, s_A, s_0, s_1, i64_w]; try rfl))
 refine tre_loadpart (a' := ?ax2_) rfl rfl (by rfl) 32 _ rfl w.heap.size 0 [] [vp0, vp1] ([.int .i64 z.2.2.1] ++ ([vp3] ++ ([vp4] ++ [vp5]))) _ rfl (fun w' hs => hs.1) (by rw [Ep.out]; first | done | rfl | (simp only [aA, aN, aL]; first | done | rfl)) (rfl) Try.underlying32 rfl (by kernel_rfl) ?px2_ ?kx2_
 case px2_ => (show Act.put _ (some _) _ = _; simp only [Act.put, s_A, s_0, s_1, i64_w]; try rfl)
 (refine tre_p (v := ?_) (a' := ?_) rfl rfl (Or.inl ⟨by rfl, ?_⟩) ?_ ?_; rotate_left; (· intro w'; go_simp; with_reducible rfl); rotate_left; (· show Act.put _ (some _) _ = _; simp only [Act.put, s_A, s_0, s_1, i64_w]; try rfl))
 refine tre_loadcell (a' := ?ax3_) rfl rfl (by rfl) 3 _ rfl w.heap.size 2 ([vp0] ++ [vp1]) (.int .i64 z.2.2.1) ([vp3] ++ ([vp4] ++ [vp5])) _ rfl (fun w' hs => hs.1) (by rw [Ep.out]; first | done | rfl | (simp only [aA, aN, aL]; first | done | rfl)) (rfl) Try.underlying3 rfl ?px3_ ?kx3_
 case px3_ => (show Act.put _ (some _) _ = _; simp only [Act.put, s_A, s_0, s_1, i64_w]; try rfl)
 (refine tre_p (v := ?_) (a' := ?_) rfl rfl (Or.inl ⟨by rfl, ?_⟩) ?_ ?_; rotate_left; (· intro w'; go_simp; with_reducible rfl); rotate_left; (· show Act.put _ (some _) _ = _; simp only [Act.put, s_A, s_0, s_1, i64_w]; try rfl))
 refine tre_loadcell (a' := ?ax4_) rfl rfl (by rfl) 26 _ rfl w.heap.size 3 ([vp0] ++ ([vp1] ++ [.int .i64 z.2.2.1])) (vp3) ([vp4] ++ [vp5]) _ rfl (fun w' hs => hs.1) (by rw [Ep.out]; first | done | rfl | (simp only [aA, aN, aL]; first | done | rfl)) (rfl) Try.underlying26 rfl ?px4_ ?kx4_
 case px4_ => (show Act.put _ (some _) _ = _; simp only [Act.put, s_A, s_0, s_1, i64_w]; try rfl)
 (refine tre_p (v := ?_) (a' := ?_) rfl rfl (Or.inl ⟨by rfl, ?_⟩) ?_ ?_; rotate_left; (· intro w'; go_simp; with_reducible rfl); rotate_left; (· show Act.put _ (some _) _ = _; simp only [Act.put, s_A, s_0, s_1, i64_w]; try rfl))
 refine tre_loadcell (a' := ?ax5_) rfl rfl (by rfl) 26 _ rfl w.heap.size 4 ([vp0] ++ ([vp1] ++ ([.int .i64 z.2.2.1] ++ [vp3]))) (vp4) [vp5] _ rfl (fun w' hs => hs.1) (by rw [Ep.out]; first | done | rfl | (simp only [aA, aN, aL]; first | done | rfl)) (rfl) Try.underlying26 rfl ?px5_ ?kx5_
 case px5_ => (show Act.put _ (some _) _ = _; simp only [Act.put, s_A, s_0, s_1, i64_w]; try rfl)
 (refine tre_p (v := ?_) (a' := ?_) rfl rfl (Or.inl ⟨by rfl, ?_⟩) ?_ ?_; rotate_left; (· intro w'; go_simp; with_reducible rfl); rotate_left; (· show Act.put _ (some _) _ = _; simp only [Act.put, s_A, s_0, s_1, i64_w]; try rfl))
 refine tre_loadcell (a' := ?ax6_) rfl rfl (by rfl) 26 _ rfl w.heap.size 5 ([vp0] ++ ([vp1] ++ ([.int .i64 z.2.2.1] ++ ([vp3] ++ [vp4])))) (vp5) [] _ rfl (fun w' hs => hs.1) (by rw [Ep.out]; first | done | rfl | (simp only [aA, aN, aL]; first | done | rfl)) (rfl) Try.underlying26 rfl ?px6_ ?kx6_
 case px6_ => (show Act.put _ (some _) _ = _; simp only [Act.put, s_A, s_0, s_1, i64_w]; try rfl)
 refine tre_e rfl (ev1_call rfl Try.func69 (by kernel_rfl) rfl #[.agg [vp0, vp1].toArray] (by rfl) rfl (by (try simp only [List.map_toArray, List.map_cons, List.map_nil]); first | done | rfl) ?_)
 with_reducible refine (cloneDisk_c (z.1, z.2.1) _ (kDisk_lit (E.out.K Kp0.out) (E.out.K Kp1.out)) F0.out).mono ?_
 rintro e w7_ ⟨d8_, rfl, Md8_, hb⟩
 have q := E.out.made4 O.out 2 rfl Md8_ hb; clear O E Md8_ hb; obtain ⟨n9_, m10_, Ld8_, Od8_, O, E⟩ := q
 refine ⟨_, rfl, ⟨(E.out.box 2 rfl), trivial⟩, (fun hHeld => ?_)⟩
 refine tre_norm (a' := ?_) ?_ ?_; rotate_left; (· show Act.put _ (some 5) _ = _; simp only [Act.put, s_A, s_0, s_1, i64_w]; try rfl)
 refine tre_e rfl (ev1_call rfl Try.func95 (by kernel_rfl) rfl #[vp3] (by rfl) rfl (by (try simp only [List.map_toArray, List.map_cons, List.map_nil]); first | done | rfl) ?_)
 with_reducible refine (cloneInts_c z.2.2.2.1 _ (E.out.K Kp3.out) F3.out).mono ?_
 rintro e w11_ ⟨d12_, rfl, Md12_, hb⟩
 have q := E.out.made4 O.out 1 rfl Md12_ hb; clear O E Md12_ hb; obtain ⟨n13_, m14_, Ld12_, Od12_, O, E⟩ := q
 obtain ⟨B15_, e16_, hv, -⟩ := E.out.mk_ 0 rfl; injection hv with hv; subst hv
 refine ⟨_, rfl, ⟨(E.out.box 3 rfl), trivial⟩, (fun hHeld => ?_)⟩
 refine tre_norm (a' := ?_) ?_ ?_; rotate_left; (· show Act.put _ (some 10) _ = _; simp only [Act.put, s_A, s_0, s_1, i64_w]; try rfl)
 refine tre_e rfl (ev1_call rfl Try.func95 (by kernel_rfl) rfl #[vp4] (by rfl) rfl (by (try simp only [List.map_toArray, List.map_cons, List.map_nil]); first | done | rfl) ?_)
 with_reducible refine (cloneInts_c z.2.2.2.2.1 _ (E.out.K Kp4.out) F4.out).mono ?_
 rintro e w17_ ⟨d18_, rfl, Md18_, hb⟩
 have q := E.out.made4 O.out 1 rfl Md18_ hb; clear O E Md18_ hb; obtain ⟨n19_, m20_, Ld18_, Od18_, O, E⟩ := q
 obtain ⟨B21_, e22_, hv, -⟩ := E.out.mk_ 0 rfl; injection hv with hv; subst hv
 refine ⟨_, rfl, ⟨(E.out.box 4 rfl), trivial⟩, (fun hHeld => ?_)⟩
 refine tre_norm (a' := ?_) ?_ ?_; rotate_left; (· show Act.put _ (some 13) _ = _; simp only [Act.put, s_A, s_0, s_1, i64_w]; try rfl)
 refine tre_e rfl (ev1_call rfl Try.func95 (by kernel_rfl) rfl #[vp5] (by rfl) rfl (by (try simp only [List.map_toArray, List.map_cons, List.map_nil]); first | done | rfl) ?_)
 with_reducible refine (cloneInts_c z.2.2.2.2.2 _ (E.out.K Kp5.out) F5.out).mono ?_
 rintro e w23_ ⟨d24_, rfl, Md24_, hb⟩
 have q := E.out.made4 O.out 1 rfl Md24_ hb; clear O E Md24_ hb; obtain ⟨n25_, m26_, Ld24_, Od24_, O, E⟩ := q
 obtain ⟨B27_, e28_, hv, -⟩ := E.out.mk_ 0 rfl; injection hv with hv; subst hv
 refine ⟨_, rfl, ⟨(E.out.box 5 rfl), trivial⟩, (fun hHeld => ?_)⟩
 refine tre_norm (a' := ?_) ?_ ?_; rotate_left; (· show Act.put _ (some 16) _ = _; simp only [Act.put, s_A, s_0, s_1, i64_w]; try rfl)
 obtain ⟨c29_, Ec29_, Lc29_, Oc29_⟩ := lump_ (d8_ ++ ([.int .i64 z.2.2.1] ++ ([.slice B15_ z.2.2.2.1.length e16_] ++ ([.slice B21_ z.2.2.2.2.1.length e22_] ++ [.slice B27_ z.2.2.2.2.2.length e28_])))) 6 (by simp only [List.length_append, List.length_cons, List.length_nil, Ld8_.out]) (ones_app Od8_.out (ones_app (ones1 rfl) (ones_app (ones1 rfl) (ones_app (ones1 rfl) (ones1 rfl)))))
 refine tre_p (v := .agg c29_.toArray) (a' := ?_) rfl rfl (Or.inl ⟨by rfl, run_build 34 _ rfl Z34 (fun w => by kernel_rfl) _ Try.underlying34 #[(0, 2), (2, 1), (3, 1), (4, 1), (5, 1)] (fun w => by kernel_rfl) [(0, .agg d8_.toArray), (1, .int .i64 z.2.2.1), (2, .slice B15_ z.2.2.2.1.length e16_), (3, .slice B21_ z.2.2.2.2.1.length e22_), (4, .slice B27_ z.2.2.2.2.2.length e28_)] (by first | rfl | (simp only [List.map_toArray, List.map_cons, List.map_nil]; rfl)) c29_ (by rw [Ec29_.out]; refine fill_seg (new := d8_) (pre := []) (mid := [.slice none 0 0, .slice none 0 0]) (post := [.int .i64 0, .slice none 0 0, .slice none 0 0, .slice none 0 0]) rfl (by first | rfl | (simp only [aA, aN, aL]; first | done | rfl)) (by show some (0, 2) = some (_, _); rw [show (d8_ : List Value).length = 2 from Ld8_.out]; first | done | rfl) (by rw [Ld8_.out]; rfl) ?_; refine fill_seg (new := [.int .i64 z.2.2.1]) (pre := d8_) (mid := [.int .i64 0]) (post := [.slice none 0 0, .slice none 0 0, .slice none 0 0]) rfl (by first | rfl | (simp only [aA, aN, aL]; first | done | rfl)) (by show some (2, 1) = some (_, _); rw [show (d8_ : List Value).length = 2 from Ld8_.out]; first | done | rfl) (rfl) ?_; refine fill_seg (new := [.slice B15_ z.2.2.2.1.length e16_]) (pre := (d8_ ++ [.int .i64 z.2.2.1])) (mid := [.slice none 0 0]) (post := [.slice none 0 0, .slice none 0 0]) rfl (by first | rfl | (simp only [aA, aN, aL]; first | done | rfl)) (by show some (3, 1) = some (_, _); rw [show ((d8_ ++ [.int .i64 z.2.2.1]) : List Value).length = 3 from by simp only [List.length_append, List.length_cons, List.length_nil, Ld8_.out]]; first | done | rfl) (rfl) ?_; refine fill_seg (new := [.slice B21_ z.2.2.2.2.1.length e22_]) (pre := (d8_ ++ ([.int .i64 z.2.2.1] ++ [.slice B15_ z.2.2.2.1.length e16_]))) (mid := [.slice none 0 0]) (post := [.slice none 0 0]) rfl (by first | rfl | (simp only [aA, aN, aL]; first | done | rfl)) (by show some (4, 1) = some (_, _); rw [show ((d8_ ++ ([.int .i64 z.2.2.1] ++ [.slice B15_ z.2.2.2.1.length e16_])) : List Value).length = 4 from by simp only [List.length_append, List.length_cons, List.length_nil, Ld8_.out]]; first | done | rfl) (rfl) ?_; refine fill_seg (new := [.slice B27_ z.2.2.2.2.2.length e28_]) (pre := (d8_ ++ ([.int .i64 z.2.2.1] ++ ([.slice B15_ z.2.2.2.1.length e16_] ++ [.slice B21_ z.2.2.2.2.1.length e22_])))) (mid := [.slice none 0 0]) (post := []) rfl (by first | rfl | (simp only [aA, aN, aL]; first | done | rfl)) (by show some (5, 1) = some (_, _); rw [show ((d8_ ++ ([.int .i64 z.2.2.1] ++ ([.slice B15_ z.2.2.2.1.length e16_] ++ [.slice B21_ z.2.2.2.2.1.length e22_]))) : List Value).length = 5 from by simp only [List.length_append, List.length_cons, List.length_nil, Ld8_.out]]; first | done | rfl) (rfl) ?_; first | rfl | simp only [Instr.fill, aA, aN, aL])⟩) ?_ ?_; rotate_left; (· show Act.put _ (some _) _ = _; simp only [Act.put, s_A, s_0, s_1, i64_w]; try rfl)
 refine tre_e rfl (ev1_storepart rfl (by rfl) 34 _ _ rfl (w.heap.size + 1) 0 c29_ [] Z34 [] rfl rfl (E.out.box 4 rfl) (by first | rfl | (simp only [aA, aN, aL]; first | done | rfl)) (rfl) (by rw [Lc29_.out]; rfl) (by rw [Lc29_.out]; kernel_rfl) Oc29_.out (fun W30_ hp hn => ?_))
 replace E := E.out.put2 4 hp hn (by have o := O.out; dsimp only [Off, OffA, Fct.box, Fct.made, List.set]; and_intros <;> first | trivial | omega); clear hp hn
 refine ⟨⟨(E.out.box 5 rfl), trivial⟩, (fun hHeld => ?_)⟩
 refine tre_done ?_
 clear hHeld
 go_wp2_with fail
 have BX := Aside0.mk (show _ = some (Obj.cells (c29_ : List Value).toArray 34 (0, 0)) from by first | exact (E.out.box 4 rfl) | simpa only [aA, aN, aL] using (E.out.box 4 rfl))
 refine bodyPost_ret (oresults_c rfl _ _ (w.heap.size + 1) 34 _ _ _ rfl BX.out Try.underlying34 rfl (by rw [List.size_toArray, show (c29_ : List Value).length = 6 from Lc29_.out]; kernel_rfl)) rfl ?_
 exact ⟨_, rfl, (by rw [Ec29_.out]; exact fresh (d := kWork) (kWork_of2 (E.out.made 3 rfl) (arow_of_srow (E.out.made 2 rfl)) (arow_of_srow (E.out.made 1 rfl)) (arow_of_srow (E.out.made 0 rfl)) (fun k h1 h2 => by have o := O.out; (try simp only [Iv, true_and, or_false, false_or] at h1 h2) <;> omega) (fun k h1 h2 => by have o := O.out; (try simp only [Iv, true_and, or_false, false_or] at h1 h2) <;> omega) (fun k h1 h2 => by have o := O.out; (try simp only [Iv, true_and, or_false, false_or] at h1 h2) <;> omega)) (Nat.le_refl _)), E.out.below⟩
theorem eqInts_c (k : Nat) (z : List Int)  {v0 : Value} {v1 : Value} (w : World) (h0 : (Own.arow 3 (Kd.int .i64)).K w z [v0]) (h1 : (Own.arow 3 (Kd.int .i64)).K w z [v1]) (hf : laws_eqIntS.f k z z = some true) :
  Calls Try.prog 50 #[v0, v1] w fun e w' => e = .returned (.bool true) ∧ Below w.heap.size w w' := by
 obtain ⟨A0, c0, hv, m0, r0⟩ := h0
 injection hv with hv
 subst hv
 obtain ⟨A1, c1, hv, m1, r1⟩ := h1
 injection hv with hv
 subst hv
 refine (laws_eqIntS.calls k A0 c0 z A1 c1 z true w r0 m0 r1 m1 hf).mono ?_
 rintro e w' ⟨he, hb⟩
 exact ⟨he, by first | exact hb | exact hb.below⟩
theorem eqReaders_c (k : Nat) (z : List S118)  {v0 : Value} {v1 : Value} (w : World) (h0 : (Own.srow 118 k118).K w z [v0]) (h1 : (Own.srow 118 k118).K w z [v1]) (hf : laws_eqReaderS.f k z z = some true) :
  Calls Try.prog 70 #[v0, v1] w fun e w' => e = .returned (.bool true) ∧ Below w.heap.size w w' := by
 obtain ⟨A0, c0, hv, m0, r0⟩ := h0
 injection hv with hv
 subst hv
 obtain ⟨A1, c1, hv, m1, r1⟩ := h1
 injection hv with hv
 subst hv
 refine (laws_eqReaderS.calls k A0 c0 z A1 c1 z true w r0 m0 r1 m1 hf).mono ?_
 rintro e w' ⟨he, hb⟩
 exact ⟨he, by first | exact hb | exact hb.below⟩
theorem heldInts_c (k : Nat) (z : List Int) (a r : Int) {v0 : Value} (w : World) (h0 : (Own.arow 3 (Kd.int .i64)).K w z [v0]) (hf : laws_heldIntS.f k z a = some r) :
  Calls Try.prog 53 #[v0, .int .i64 a] w fun e w' => e = .returned (.int .i64 r) ∧ Below w.heap.size w w' := by
 obtain ⟨A0, c0, hv, m0, r0⟩ := h0
 injection hv with hv
 subst hv
 refine (laws_heldIntS.calls k A0 c0 z a r w r0 m0 hf).mono ?_
 rintro e w' ⟨he, hb⟩
 exact ⟨he, by first | exact hb | exact hb.below⟩
theorem heldReaders_c (k : Nat) (z : List S118) (a r : Int) {v0 : Value} (w : World) (h0 : (Own.srow 118 k118).K w z [v0]) (hf : laws_heldReaderS.f k z a = some r) :
  Calls Try.prog 74 #[v0, .int .i64 a] w fun e w' => e = .returned (.int .i64 r) ∧ Below w.heap.size w w' := by
 obtain ⟨A0, c0, hv, m0, r0⟩ := h0
 injection hv with hv
 subst hv
 refine (laws_heldReaderS.calls k A0 c0 z a r w r0 m0 hf).mono ?_
 rintro e w' ⟨he, hb⟩
 exact ⟨he, by first | exact hb | exact hb.below⟩
theorem toInts_c (k : Nat) (z : List Int) (r : List Int) {v0 : Value} (w : World) (h0 : (Own.arow 3 (Kd.int .i64)).K w z [v0]) (hf : laws_toIntS.f k z = some r) :
  Calls Try.prog 48 #[v0] w fun e w' => ∃ u : Value, e = .returned u ∧ (Own.srow 3 (Kd.int .i64)).M w' w.heap.size (Fr w w') r [u] ∧ Below w.heap.size w w' := by
 obtain ⟨A0, c0, hv, m0, r0⟩ := h0
 injection hv with hv
 subst hv
 refine (laws_toIntS.calls k A0 c0 z r w r0 m0 hf).mono ?_
 rintro e w' ⟨u, rfl, R, hb⟩
 exact ⟨u, rfl, made_of_R rfl R, hb⟩
theorem toDisk_c (k : Nat) (a : (List ByteArray × List S140)) (z : (List ByteArray × List S135)) {cs : List Value} (w : World) (h : kDiskL.K w a cs) (hf : laws_toDisk.f k a.1 a.2 = some (z.1, z.2)) :
  Calls Try.prog 24 #[.agg cs.toArray] w fun e w' => ∃ ds : List Value, e = .returned (.agg ds.toArray) ∧ kDisk.M w' w.heap.size (Fr w w') z ds ∧ Below w.heap.size w w' := toDisk_o k a.1 a.2 z.1 z.2 w h hf
theorem toReaders_c (k : Nat) (l0 : List (S154)) (r : List (S118)) {v : Value} (w : World) (h : (Own.srow 154 k154).K w l0 [v]) (hf : laws_toReaderS.f k l0 = some r) :
  Calls Try.prog 81 #[v] w fun e w' => ∃ u : Value, e = .returned u ∧ (Own.srow 118 k118).M w' w.heap.size (Fr w w') r [u] ∧ Below w.heap.size w w' := by
 refine (toReaders_o k l0 r w h hf).mono ?_
 rintro e w' ⟨u, rfl, R, hb⟩
 exact ⟨u, rfl, ⟨_, rfl, R⟩, hb⟩
def eqDisk_c_f (k : Nat) (z0 : (List ByteArray × List S135)) (z1 : (List ByteArray × List S135))  : Option Bool := laws_eqDisk.f k z0.1 z0.2 z1.1 z1.2
theorem eqDisk_c (k : Nat) (z0 : (List ByteArray × List S135)) {cs0 : List Value} (z1 : (List ByteArray × List S135)) {cs1 : List Value}  (r : Bool) (w : World) (h0 : kDisk.K w z0 cs0) (h1 : kDisk.K w z1 cs1) (hf : eqDisk_c_f k z0 z1  = some r) :
  Calls Try.prog 27 #[.agg cs0.toArray, .agg cs1.toArray] w fun e w' => e = .returned (.bool r) ∧ Below w.heap.size w w' := by
 obtain ⟨p_0, q_0⟩ := z0
 obtain ⟨A_00, c_00, A_01, c_01, rfl, m_00, r_00, m_01, r_01⟩ := kDisk_open h0
 obtain ⟨p_1, q_1⟩ := z1
 obtain ⟨A_10, c_10, A_11, c_11, rfl, m_10, r_10, m_11, r_11⟩ := kDisk_open h1
 exact laws_eqDisk.calls k A_00 c_00 p_0 A_01 c_01 q_0 A_10 c_10 p_1 A_11 c_11 q_1  r w r_00 m_00 r_01 m_01 r_10 m_10 r_11 m_11 hf
def heldDisk_c_f (k : Nat) (z0 : (List ByteArray × List S135)) (a : Int) : Option Int := laws_heldDisk.f k z0.1 z0.2 a
theorem heldDisk_c (k : Nat) (z0 : (List ByteArray × List S135)) {cs0 : List Value} (a : Int) (r : Int) (w : World) (h0 : kDisk.K w z0 cs0) (hf : heldDisk_c_f k z0 a = some r) :
  Calls Try.prog 52 #[.agg cs0.toArray, .int .i64 a] w fun e w' => e = .returned (.int .i64 r) ∧ Below w.heap.size w w' := by
 obtain ⟨p_0, q_0⟩ := z0
 obtain ⟨A_00, c_00, A_01, c_01, rfl, m_00, r_00, m_01, r_01⟩ := kDisk_open h0
 exact laws_heldDisk.calls k A_00 c_00 p_0 A_01 c_01 q_0 a r w r_00 m_00 r_01 m_01 hf
def eqMeta_c_f (k : Nat) (z0 : S53) (z1 : S53)  : Option Bool := laws_eqMeta.f k z0.f0 z0.f1 z0.f2 z0.f3 z1.f0 z1.f1 z1.f2 z1.f3
theorem eqMeta_c (k : Nat) (z0 : S53) {cs0 : List Value} (z1 : S53) {cs1 : List Value}  (r : Bool) (w : World) (h0 : k53.K w z0 cs0) (h1 : k53.K w z1 cs1) (hf : eqMeta_c_f k z0 z1  = some r) :
  Calls Try.prog 41 #[.agg cs0.toArray, .agg cs1.toArray] w fun e w' => e = .returned (.bool r) ∧ Below w.heap.size w w' := by
 obtain ⟨x_0, rfl⟩ : ∃ x, x = z0 := ⟨_, rfl⟩
 obtain ⟨A_0, c_0, rfl, m_0, r_0⟩ := k53_open h0
 obtain ⟨x_1, rfl⟩ : ∃ x, x = z1 := ⟨_, rfl⟩
 obtain ⟨A_1, c_1, rfl, m_1, r_1⟩ := k53_open h1
 exact laws_eqMeta.calls k x_0.f0 x_0.f1 x_0.f2 A_0 c_0 x_0.f3 x_1.f0 x_1.f1 x_1.f2 A_1 c_1 x_1.f3  r w r_0 m_0 r_1 m_1 hf
def heldMeta_c_f (k : Nat) (z0 : S53) (a : Int) : Option Int := laws_heldMeta.f k z0.f0 z0.f1 z0.f2 z0.f3 a
theorem heldMeta_c (k : Nat) (z0 : S53) {cs0 : List Value} (a : Int) (r : Int) (w : World) (h0 : k53.K w z0 cs0) (hf : heldMeta_c_f k z0 a = some r) :
  Calls Try.prog 45 #[.agg cs0.toArray, .int .i64 a] w fun e w' => e = .returned (.int .i64 r) ∧ Below w.heap.size w w' := by
 obtain ⟨x_0, rfl⟩ : ∃ x, x = z0 := ⟨_, rfl⟩
 obtain ⟨A_0, c_0, rfl, m_0, r_0⟩ := k53_open h0
 exact laws_heldMeta.calls k x_0.f0 x_0.f1 x_0.f2 A_0 c_0 x_0.f3 a r w r_0 m_0 hf
def EqWork (k : Nat) (z : (List ByteArray × List S135 × Int × List Int × List Int × List Int)) : Prop := eqDisk_c_f k (z.1, z.2.1) (z.1, z.2.1) = some true ∧ laws_eqIntS.f k z.2.2.2.1 z.2.2.2.1 = some true ∧ laws_eqIntS.f k z.2.2.2.2.1 z.2.2.2.2.1 = some true ∧ laws_eqIntS.f k z.2.2.2.2.2 z.2.2.2.2.2 = some true
theorem eqWork_c (k : Nat) (z : (List ByteArray × List S135 × Int × List Int × List Int × List Int)) {cs ds : List Value} (w : World) (h : kWork.K w z cs) (h2 : kWork.K w z ds) (hf : EqWork k z) :
  Calls Try.prog 13 #[.agg cs.toArray, .agg ds.toArray] w fun e w' => e = .returned (.bool true) ∧ Below w.heap.size w w' := by
 have hwp := h
 obtain ⟨cp0, _, rfl, hp0, cp1, _, rfl, hp1, cp2, _, rfl, hp2, cp3, _, rfl, hp3, cp4, cp5, rfl, hp4, hp5⟩ := h
 have gp0 := hp0; obtain ⟨A_, k_, rfl, -, -⟩ := hp0; obtain ⟨vp0, hv⟩ : ∃ v, v = Value.slice A_ (z.1).length k_ := ⟨_, rfl⟩; rw [← hv] at gp0 hwp ⊢; clear hv
 have gp1 := hp1; obtain ⟨A_, k_, rfl, -, -⟩ := hp1; obtain ⟨vp1, hv⟩ : ∃ v, v = Value.slice A_ (z.2.1).length k_ := ⟨_, rfl⟩; rw [← hv] at gp1 hwp ⊢; clear hv
 obtain rfl : cp2 = [.int .i64 z.2.2.1] := hp2
 have gp3 := hp3; obtain ⟨A_, k_, rfl, -, -⟩ := hp3; obtain ⟨vp3, hv⟩ : ∃ v, v = Value.slice A_ (z.2.2.2.1).length k_ := ⟨_, rfl⟩; rw [← hv] at gp3 hwp ⊢; clear hv
 have gp4 := hp4; obtain ⟨A_, k_, rfl, -, -⟩ := hp4; obtain ⟨vp4, hv⟩ : ∃ v, v = Value.slice A_ (z.2.2.2.2.1).length k_ := ⟨_, rfl⟩; rw [← hv] at gp4 hwp ⊢; clear hv
 have gp5 := hp5; obtain ⟨A_, k_, rfl, -, -⟩ := hp5; obtain ⟨vp5, hv⟩ : ∃ v, v = Value.slice A_ (z.2.2.2.2.2).length k_ := ⟨_, rfl⟩; rw [← hv] at gp5 hwp ⊢; clear hv
 obtain ⟨ep, he⟩ : ∃ cs, cs = [vp0] ++ ([vp1] ++ ([.int .i64 z.2.2.1] ++ ([vp3] ++ ([vp4] ++ ([vp5]))))) := ⟨_, rfl⟩; rw [← he] at hwp ⊢; have Ep := Aside0.mk he; have Wp := Aside0.mk hwp; have Np := Aside0.mk (show ep.length = 6 from Kd.K_len _ hwp); clear he hwp
 have Kp0 := Aside0.mk gp0; clear gp0
 have Kp1 := Aside0.mk gp1; clear gp1
 have Kp3 := Aside0.mk gp3; clear gp3
 have Kp4 := Aside0.mk gp4; clear gp4
 have Kp5 := Aside0.mk gp5; clear gp5
 have hwq := h2
 obtain ⟨cq0, _, rfl, hq0, cq1, _, rfl, hq1, cq2, _, rfl, hq2, cq3, _, rfl, hq3, cq4, cq5, rfl, hq4, hq5⟩ := h2
 have gq0 := hq0; obtain ⟨A_, k_, rfl, -, -⟩ := hq0; obtain ⟨vq0, hv⟩ : ∃ v, v = Value.slice A_ (z.1).length k_ := ⟨_, rfl⟩; rw [← hv] at gq0 hwq ⊢; clear hv
 have gq1 := hq1; obtain ⟨A_, k_, rfl, -, -⟩ := hq1; obtain ⟨vq1, hv⟩ : ∃ v, v = Value.slice A_ (z.2.1).length k_ := ⟨_, rfl⟩; rw [← hv] at gq1 hwq ⊢; clear hv
 obtain rfl : cq2 = [.int .i64 z.2.2.1] := hq2
 have gq3 := hq3; obtain ⟨A_, k_, rfl, -, -⟩ := hq3; obtain ⟨vq3, hv⟩ : ∃ v, v = Value.slice A_ (z.2.2.2.1).length k_ := ⟨_, rfl⟩; rw [← hv] at gq3 hwq ⊢; clear hv
 have gq4 := hq4; obtain ⟨A_, k_, rfl, -, -⟩ := hq4; obtain ⟨vq4, hv⟩ : ∃ v, v = Value.slice A_ (z.2.2.2.2.1).length k_ := ⟨_, rfl⟩; rw [← hv] at gq4 hwq ⊢; clear hv
 have gq5 := hq5; obtain ⟨A_, k_, rfl, -, -⟩ := hq5; obtain ⟨vq5, hv⟩ : ∃ v, v = Value.slice A_ (z.2.2.2.2.2).length k_ := ⟨_, rfl⟩; rw [← hv] at gq5 hwq ⊢; clear hv
 obtain ⟨eq, he⟩ : ∃ cs, cs = [vq0] ++ ([vq1] ++ ([.int .i64 z.2.2.1] ++ ([vq3] ++ ([vq4] ++ ([vq5]))))) := ⟨_, rfl⟩; rw [← he] at hwq ⊢; have Eq := Aside0.mk he; have Wq := Aside0.mk hwq; have Nq := Aside0.mk (show eq.length = 6 from Kd.K_len _ hwq); clear he hwq
 have Kq0 := Aside0.mk gq0; clear gq0
 have Kq1 := Aside0.mk gq1; clear gq1
 have Kq3 := Aside0.mk gq3; clear gq3
 have Kq4 := Aside0.mk gq4; clear gq4
 have Kq5 := Aside0.mk gq5; clear gq5
 obtain ⟨fF0, fF2, fF3, fF4⟩ := hf
 have F0 := Aside0.mk fF0; clear fF0
 have F2 := Aside0.mk fF2; clear fF2
 have F3 := Aside0.mk fF3; clear fF3
 have F4 := Aside0.mk fF4; clear fF4
 have O := Aside0.mk (Nat.le_refl w.heap.size)
 have E := Aside0.mk (Env.start w)
 go_enter Try.func13, Try.ntmps13
 go_wp2_with (first | ((with_reducible refine gate_dst (N := 6) rfl ?_); replace O := Aside0.mk (And.intro E.out.le O.out); replace E := Aside0.mk (E.out.alloc ep 34 (g := w.heap.size) rfl); replace E := Aside0.mk (E.out.alloc eq 34 (g := (w.heap.size + 1)) (by simp)); refine ev_loadpart rfl 32 _ rfl w.heap.size 0 [] [vp0, vp1] ([.int .i64 z.2.2.1] ++ ([vp3] ++ ([vp4] ++ [vp5]))) _ rfl (E.out.box 1 rfl) (by rw [Ep.out]; first | done | rfl | (simp only [aA, aN, aL]; first | done | rfl)) (rfl) Try.underlying32 rfl (by kernel_rfl) ?_) | ((with_reducible refine gate_dst (N := 8) rfl ?_); refine ev_loadpart rfl 32 _ rfl (w.heap.size + 1) 0 [] [vq0, vq1] ([.int .i64 z.2.2.1] ++ ([vq3] ++ ([vq4] ++ [vq5]))) _ rfl (E.out.box 0 rfl) (by rw [Eq.out]; first | done | rfl | (simp only [aA, aN, aL]; first | done | rfl)) (rfl) Try.underlying32 rfl (by kernel_rfl) ?_))
 ((with_reducible refine (eqDisk_c k (z.1, z.2.1) (z.1, z.2.1) true _ (kDisk_lit (E.out.K Kp0.out) (E.out.K Kp1.out)) (kDisk_lit (E.out.K Kq0.out) (E.out.K Kq1.out)) F0.out).mono ?_); rintro e w1_ ⟨rfl, hb⟩)
 replace E := Aside0.mk (E.out.call hb); clear hb
 go_wp2_with (first | ((with_reducible refine gate_dst (N := 12) rfl ?_); refine ev_loadcell rfl 3 _ rfl w.heap.size 2 ([vp0] ++ [vp1]) (.int .i64 z.2.2.1) ([vp3] ++ ([vp4] ++ [vp5])) rfl (E.out.box 1 rfl) (by rw [Ep.out]; first | done | rfl | (simp only [aA, aN, aL]; first | done | rfl)) (rfl) Try.underlying3 rfl ?_) | ((with_reducible refine gate_dst (N := 14) rfl ?_); refine ev_loadcell rfl 3 _ rfl (w.heap.size + 1) 2 ([vq0] ++ [vq1]) (.int .i64 z.2.2.1) ([vq3] ++ ([vq4] ++ [vq5])) rfl (E.out.box 0 rfl) (by rw [Eq.out]; first | done | rfl | (simp only [aA, aN, aL]; first | done | rfl)) (rfl) Try.underlying3 rfl ?_) | ((with_reducible refine gate_dst (N := 17) rfl ?_); refine ev_loadcell rfl 26 _ rfl w.heap.size 3 ([vp0] ++ ([vp1] ++ [.int .i64 z.2.2.1])) (vp3) ([vp4] ++ [vp5]) rfl (E.out.box 1 rfl) (by rw [Ep.out]; first | done | rfl | (simp only [aA, aN, aL]; first | done | rfl)) (rfl) Try.underlying26 rfl ?_) | ((with_reducible refine gate_dst (N := 19) rfl ?_); refine ev_loadcell rfl 26 _ rfl (w.heap.size + 1) 3 ([vq0] ++ ([vq1] ++ [.int .i64 z.2.2.1])) (vq3) ([vq4] ++ [vq5]) rfl (E.out.box 0 rfl) (by rw [Eq.out]; first | done | rfl | (simp only [aA, aN, aL]; first | done | rfl)) (rfl) Try.underlying26 rfl ?_))
 ((with_reducible refine (eqInts_c k z.2.2.2.1 _ (E.out.K Kp3.out) (E.out.K Kq3.out) F2.out).mono ?_); rintro e w2_ ⟨rfl, hb⟩)
 replace E := Aside0.mk (E.out.call hb); clear hb
 go_wp2_with (first | ((with_reducible refine gate_dst (N := 23) rfl ?_); refine ev_loadcell rfl 26 _ rfl w.heap.size 4 ([vp0] ++ ([vp1] ++ ([.int .i64 z.2.2.1] ++ [vp3]))) (vp4) [vp5] rfl (E.out.box 1 rfl) (by rw [Ep.out]; first | done | rfl | (simp only [aA, aN, aL]; first | done | rfl)) (rfl) Try.underlying26 rfl ?_) | ((with_reducible refine gate_dst (N := 25) rfl ?_); refine ev_loadcell rfl 26 _ rfl (w.heap.size + 1) 4 ([vq0] ++ ([vq1] ++ ([.int .i64 z.2.2.1] ++ [vq3]))) (vq4) [vq5] rfl (E.out.box 0 rfl) (by rw [Eq.out]; first | done | rfl | (simp only [aA, aN, aL]; first | done | rfl)) (rfl) Try.underlying26 rfl ?_))
 ((with_reducible refine (eqInts_c k z.2.2.2.2.1 _ (E.out.K Kp4.out) (E.out.K Kq4.out) F3.out).mono ?_); rintro e w3_ ⟨rfl, hb⟩)
 replace E := Aside0.mk (E.out.call hb); clear hb
 go_wp2_with (first | ((with_reducible refine gate_dst (N := 29) rfl ?_); refine ev_loadcell rfl 26 _ rfl w.heap.size 5 ([vp0] ++ ([vp1] ++ ([.int .i64 z.2.2.1] ++ ([vp3] ++ [vp4])))) (vp5) [] rfl (E.out.box 1 rfl) (by rw [Ep.out]; first | done | rfl | (simp only [aA, aN, aL]; first | done | rfl)) (rfl) Try.underlying26 rfl ?_) | ((with_reducible refine gate_dst (N := 31) rfl ?_); refine ev_loadcell rfl 26 _ rfl (w.heap.size + 1) 5 ([vq0] ++ ([vq1] ++ ([.int .i64 z.2.2.1] ++ ([vq3] ++ [vq4])))) (vq5) [] rfl (E.out.box 0 rfl) (by rw [Eq.out]; first | done | rfl | (simp only [aA, aN, aL]; first | done | rfl)) (rfl) Try.underlying26 rfl ?_))
 ((with_reducible refine (eqInts_c k z.2.2.2.2.2 _ (E.out.K Kp5.out) (E.out.K Kq5.out) F4.out).mono ?_); rintro e w4_ ⟨rfl, hb⟩)
 replace E := Aside0.mk (E.out.call hb); clear hb
 go_wp2_with fail
 go_ret
 exact ⟨rfl, E.out.below⟩
def HeldWork (k : Nat) (z : (List ByteArray × List S135 × Int × List Int × List Int × List Int)) (a r : Int) : Prop := ∃ t1 t2 t3 : Int, heldDisk_c_f k (z.1, z.2.1) a = some t1 ∧ ¬ t1 < 0 ∧ laws_heldIntS.f k z.2.2.2.1 t1 = some t2 ∧ ¬ t2 < 0 ∧ laws_heldIntS.f k z.2.2.2.2.1 t2 = some t3 ∧ ¬ t3 < 0 ∧ laws_heldIntS.f k z.2.2.2.2.2 t3 = some r ∧ ¬ r < 0
theorem heldWork_c (k : Nat) (z : (List ByteArray × List S135 × Int × List Int × List Int × List Int)) (a r : Int) {cs : List Value} (w : World) (h : kWork.K w z cs) (hf : HeldWork k z a r) :
  Calls Try.prog 15 #[.agg cs.toArray, .int .i64 a] w fun e w' => e = .returned (.int .i64 r) ∧ Below w.heap.size w w' := by
 have hwp := h
 obtain ⟨cp0, _, rfl, hp0, cp1, _, rfl, hp1, cp2, _, rfl, hp2, cp3, _, rfl, hp3, cp4, cp5, rfl, hp4, hp5⟩ := h
 have gp0 := hp0; obtain ⟨A_, k_, rfl, -, -⟩ := hp0; obtain ⟨vp0, hv⟩ : ∃ v, v = Value.slice A_ (z.1).length k_ := ⟨_, rfl⟩; rw [← hv] at gp0 hwp ⊢; clear hv
 have gp1 := hp1; obtain ⟨A_, k_, rfl, -, -⟩ := hp1; obtain ⟨vp1, hv⟩ : ∃ v, v = Value.slice A_ (z.2.1).length k_ := ⟨_, rfl⟩; rw [← hv] at gp1 hwp ⊢; clear hv
 obtain rfl : cp2 = [.int .i64 z.2.2.1] := hp2
 have gp3 := hp3; obtain ⟨A_, k_, rfl, -, -⟩ := hp3; obtain ⟨vp3, hv⟩ : ∃ v, v = Value.slice A_ (z.2.2.2.1).length k_ := ⟨_, rfl⟩; rw [← hv] at gp3 hwp ⊢; clear hv
 have gp4 := hp4; obtain ⟨A_, k_, rfl, -, -⟩ := hp4; obtain ⟨vp4, hv⟩ : ∃ v, v = Value.slice A_ (z.2.2.2.2.1).length k_ := ⟨_, rfl⟩; rw [← hv] at gp4 hwp ⊢; clear hv
 have gp5 := hp5; obtain ⟨A_, k_, rfl, -, -⟩ := hp5; obtain ⟨vp5, hv⟩ : ∃ v, v = Value.slice A_ (z.2.2.2.2.2).length k_ := ⟨_, rfl⟩; rw [← hv] at gp5 hwp ⊢; clear hv
 obtain ⟨ep, he⟩ : ∃ cs, cs = [vp0] ++ ([vp1] ++ ([.int .i64 z.2.2.1] ++ ([vp3] ++ ([vp4] ++ ([vp5]))))) := ⟨_, rfl⟩; rw [← he] at hwp ⊢; have Ep := Aside0.mk he; have Wp := Aside0.mk hwp; have Np := Aside0.mk (show ep.length = 6 from Kd.K_len _ hwp); clear he hwp
 have Kp0 := Aside0.mk gp0; clear gp0
 have Kp1 := Aside0.mk gp1; clear gp1
 have Kp3 := Aside0.mk gp3; clear gp3
 have Kp4 := Aside0.mk gp4; clear gp4
 have Kp5 := Aside0.mk gp5; clear gp5
 obtain ⟨t1, t2, t3, f0, n0, f1, n1, f2, n2, f3, n3⟩ := hf
 have F0 := Aside0.mk f0; clear f0; replace n0 : decide (t1 < 0) = false := decide_eq_false n0
 have F1 := Aside0.mk f1; clear f1; replace n1 : decide (t2 < 0) = false := decide_eq_false n1
 have F2 := Aside0.mk f2; clear f2; replace n2 : decide (t3 < 0) = false := decide_eq_false n2
 have F3 := Aside0.mk f3; clear f3; replace n3 : decide (r < 0) = false := decide_eq_false n3
 have O := Aside0.mk (Nat.le_refl w.heap.size)
 have E := Aside0.mk (Env.start w)
 go_enter Try.func15, Try.ntmps15
 go_wp2_with (first | ((with_reducible refine gate_dst (N := 6) rfl ?_); replace O := Aside0.mk (And.intro E.out.le O.out); replace E := Aside0.mk (E.out.alloc ep 34 (g := w.heap.size) rfl); refine ev_loadpart rfl 32 _ rfl w.heap.size 0 [] [vp0, vp1] ([.int .i64 z.2.2.1] ++ ([vp3] ++ ([vp4] ++ [vp5]))) _ rfl (E.out.box 0 rfl) (by rw [Ep.out]; first | done | rfl | (simp only [aA, aN, aL]; first | done | rfl)) (rfl) Try.underlying32 rfl (by kernel_rfl) ?_))
 ((with_reducible refine (heldDisk_c k (z.1, z.2.1) a t1 _ (kDisk_lit (E.out.K Kp0.out) (E.out.K Kp1.out)) F0.out).mono ?_); rintro e w1_ ⟨rfl, hb⟩)
 replace E := Aside0.mk (E.out.call hb); clear hb
 go_wp2_with (first | ((with_reducible refine gate_dst (N := 12) rfl ?_); refine ev_loadcell rfl 26 _ rfl w.heap.size 3 ([vp0] ++ ([vp1] ++ [.int .i64 z.2.2.1])) (vp3) ([vp4] ++ [vp5]) rfl (E.out.box 0 rfl) (by rw [Ep.out]; first | done | rfl | (simp only [aA, aN, aL]; first | done | rfl)) (rfl) Try.underlying26 rfl ?_))
 ((with_reducible refine (heldInts_c k z.2.2.2.1 t1 t2 _ (E.out.K Kp3.out) F1.out).mono ?_); rintro e w2_ ⟨rfl, hb⟩)
 replace E := Aside0.mk (E.out.call hb); clear hb
 go_wp2_with (first | ((with_reducible refine gate_dst (N := 18) rfl ?_); refine ev_loadcell rfl 26 _ rfl w.heap.size 4 ([vp0] ++ ([vp1] ++ ([.int .i64 z.2.2.1] ++ [vp3]))) (vp4) [vp5] rfl (E.out.box 0 rfl) (by rw [Ep.out]; first | done | rfl | (simp only [aA, aN, aL]; first | done | rfl)) (rfl) Try.underlying26 rfl ?_))
 ((with_reducible refine (heldInts_c k z.2.2.2.2.1 t2 t3 _ (E.out.K Kp4.out) F2.out).mono ?_); rintro e w3_ ⟨rfl, hb⟩)
 replace E := Aside0.mk (E.out.call hb); clear hb
 go_wp2_with (first | ((with_reducible refine gate_dst (N := 24) rfl ?_); refine ev_loadcell rfl 26 _ rfl w.heap.size 5 ([vp0] ++ ([vp1] ++ ([.int .i64 z.2.2.1] ++ ([vp3] ++ [vp4])))) (vp5) [] rfl (E.out.box 0 rfl) (by rw [Ep.out]; first | done | rfl | (simp only [aA, aN, aL]; first | done | rfl)) (rfl) Try.underlying26 rfl ?_))
 ((with_reducible refine (heldInts_c k z.2.2.2.2.2 t3 r _ (E.out.K Kp5.out) F3.out).mono ?_); rintro e w4_ ⟨rfl, hb⟩)
 replace E := Aside0.mk (E.out.call hb); clear hb
 go_wp2_with fail
 go_ret
 exact ⟨rfl, E.out.below⟩
def ToWork (k : Nat) (a : (List ByteArray × List S140 × Int × List Int × List Int × List Int)) (z : (List ByteArray × List S135 × Int × List Int × List Int × List Int)) : Prop := laws_toDisk.f k a.1 a.2.1 = some (z.1, z.2.1) ∧ z.2.2.1 = a.2.2.1 ∧ laws_toIntS.f k a.2.2.2.1 = some z.2.2.2.1 ∧ laws_toIntS.f k a.2.2.2.2.1 = some z.2.2.2.2.1 ∧ laws_toIntS.f k a.2.2.2.2.2 = some z.2.2.2.2.2
theorem toWork_c (k : Nat) (a : (List ByteArray × List S140 × Int × List Int × List Int × List Int)) (z : (List ByteArray × List S135 × Int × List Int × List Int × List Int)) {cs : List Value} (w : World) (h : kWorkL.K w a cs) (hf : ToWork k a z) :
  Calls Try.prog 11 #[.agg cs.toArray] w fun e w' => ∃ ds : List Value, e = .returned (.agg ds.toArray) ∧ kWork.M w' w.heap.size (Fr w w') z ds ∧ Below w.heap.size w w' := by
 have hwp := h
 obtain ⟨cp0, _, rfl, hp0, cp1, _, rfl, hp1, cp2, _, rfl, hp2, cp3, _, rfl, hp3, cp4, cp5, rfl, hp4, hp5⟩ := h
 have gp0 := hp0; obtain ⟨A_, k_, rfl, -, -⟩ := hp0; obtain ⟨vp0, hv⟩ : ∃ v, v = Value.slice A_ (a.1).length k_ := ⟨_, rfl⟩; rw [← hv] at gp0 hwp ⊢; clear hv
 have gp1 := hp1; obtain ⟨A_, k_, rfl, -, -⟩ := hp1; obtain ⟨vp1, hv⟩ : ∃ v, v = Value.slice A_ (a.2.1).length k_ := ⟨_, rfl⟩; rw [← hv] at gp1 hwp ⊢; clear hv
 obtain rfl : cp2 = [.int .i64 a.2.2.1] := hp2
 have gp3 := hp3; obtain ⟨A_, k_, rfl, -, -⟩ := hp3; obtain ⟨vp3, hv⟩ : ∃ v, v = Value.slice A_ (a.2.2.2.1).length k_ := ⟨_, rfl⟩; rw [← hv] at gp3 hwp ⊢; clear hv
 have gp4 := hp4; obtain ⟨A_, k_, rfl, -, -⟩ := hp4; obtain ⟨vp4, hv⟩ : ∃ v, v = Value.slice A_ (a.2.2.2.2.1).length k_ := ⟨_, rfl⟩; rw [← hv] at gp4 hwp ⊢; clear hv
 have gp5 := hp5; obtain ⟨A_, k_, rfl, -, -⟩ := hp5; obtain ⟨vp5, hv⟩ : ∃ v, v = Value.slice A_ (a.2.2.2.2.2).length k_ := ⟨_, rfl⟩; rw [← hv] at gp5 hwp ⊢; clear hv
 obtain ⟨ep, he⟩ : ∃ cs, cs = [vp0] ++ ([vp1] ++ ([.int .i64 a.2.2.1] ++ ([vp3] ++ ([vp4] ++ ([vp5]))))) := ⟨_, rfl⟩; rw [← he] at hwp ⊢; have Ep := Aside0.mk he; have Wp := Aside0.mk hwp; have Np := Aside0.mk (show ep.length = 6 from Kd.K_len _ hwp); clear he hwp
 have Kp0 := Aside0.mk gp0; clear gp0
 have Kp1 := Aside0.mk gp1; clear gp1
 have Kp3 := Aside0.mk gp3; clear gp3
 have Kp4 := Aside0.mk gp4; clear gp4
 have Kp5 := Aside0.mk gp5; clear gp5
 obtain ⟨fF0, fF1, fF2, fF3, fF4⟩ := hf
 have F0 := Aside0.mk fF0; clear fF0
 have F1 := Aside0.mk fF1; clear fF1
 have F2 := Aside0.mk fF2; clear fF2
 have F3 := Aside0.mk fF3; clear fF3
 have F4 := Aside0.mk fF4; clear fF4
 have O := Aside0.mk (Nat.le_refl w.heap.size)
 have E := Aside0.mk (Env.start w)
 go_enter Try.func11, Try.ntmps11
 go_wp2_with (first | ((with_reducible refine gate_dst (N := 5) rfl ?_); replace O := Aside0.mk (And.intro E.out.le O.out); replace E := Aside0.mk (E.out.alloc ep 28 (g := w.heap.size) rfl); replace E := Aside0.mk (E.out.alloc Z34 34 (g := (w.heap.size + 1)) (by simp)); replace E := Aside0.mk (E.out.alloc Z34 34 (g := (w.heap.size + 1 + 1)) (by simp)); refine ev_loadpart rfl 25 _ rfl w.heap.size 0 [] [vp0, vp1] ([.int .i64 a.2.2.1] ++ ([vp3] ++ ([vp4] ++ [vp5]))) _ rfl (E.out.box 2 rfl) (by rw [Ep.out]; first | done | rfl | (simp only [aA, aN, aL]; first | done | rfl)) (rfl) Try.underlying25 rfl (by kernel_rfl) ?_))
 ((with_reducible refine (toDisk_c k (a.1, a.2.1) (z.1, z.2.1) _ (kDiskL_lit (E.out.K Kp0.out) (E.out.K Kp1.out)) F0.out).mono ?_); rintro e w1_ ⟨d2_, rfl, Md2_, hb⟩)
 have q := E.out.made4 O.out 2 rfl Md2_ hb; clear O E Md2_ hb; obtain ⟨n3_, m4_, Ld2_, Od2_, O, E⟩ := q
 go_wp2_with (first | ((with_reducible refine gate_store (t := 32) (p := 7) rfl ?_); refine ev_storepart rfl 32 _ _ rfl rfl (w.heap.size + 1 + 1) 0 d2_ [] [.slice none 0 0, .slice none 0 0] [.int .i64 0, .slice none 0 0, .slice none 0 0, .slice none 0 0] rfl rfl (E.out.box 1 rfl) (by first | rfl | (simp only [aA, aN, aL]; first | done | rfl)) (rfl) (by rw [Ld2_.out]; rfl) (by rw [Ld2_.out]; kernel_rfl) Od2_.out ?_; intro W5_ hp hn; replace E := E.out.put2 1 hp hn (by have o := O.out; dsimp only [Off, OffA, Fct.box, Fct.made, List.set]; and_intros <;> first | trivial | omega); clear hp hn) | ((with_reducible refine gate_dst (N := 9) rfl ?_); refine ev_loadcell rfl 3 _ rfl w.heap.size 2 ([vp0] ++ [vp1]) (.int .i64 a.2.2.1) ([vp3] ++ ([vp4] ++ [vp5])) rfl (E.out.box 3 rfl) (by rw [Ep.out]; first | done | rfl | (simp only [aA, aN, aL]; first | done | rfl)) (rfl) Try.underlying3 rfl ?_) | ((with_reducible refine gate_store (t := 3) (p := 10) rfl ?_); refine ev_storecell rfl 3 _ _ rfl rfl (w.heap.size + 1 + 1) 2 (.int .i64 a.2.2.1) (.int .i64 0) d2_ [.slice none 0 0, .slice none 0 0, .slice none 0 0] rfl rfl (E.out.box 1 rfl) (by first | rfl | (simp only [aA, aN, aL]; first | done | rfl)) (Ld2_.out) (by kernel_rfl) rfl rfl ?_; intro W6_ hp hn; replace E := E.out.put2 1 hp hn (by have o := O.out; dsimp only [Off, OffA, Fct.box, Fct.made, List.set]; and_intros <;> first | trivial | omega); clear hp hn) | ((with_reducible refine gate_dst (N := 12) rfl ?_); refine ev_loadcell rfl 26 _ rfl w.heap.size 3 ([vp0] ++ ([vp1] ++ [.int .i64 a.2.2.1])) (vp3) ([vp4] ++ [vp5]) rfl (E.out.box 3 rfl) (by rw [Ep.out]; first | done | rfl | (simp only [aA, aN, aL]; first | done | rfl)) (rfl) Try.underlying26 rfl ?_))
 ((with_reducible refine (toInts_c k a.2.2.2.1 z.2.2.2.1 _ (E.out.K Kp3.out) F2.out).mono ?_); rintro e w7_ ⟨d8_, rfl, Md8_, hb⟩)
 have q := E.out.made4 O.out 1 rfl Md8_ hb; clear O E Md8_ hb; obtain ⟨n9_, m10_, Ld8_, Od8_, O, E⟩ := q
 obtain ⟨B11_, e12_, hv, -⟩ := E.out.mk_ 0 rfl; injection hv with hv; subst hv
 go_wp2_with (first | ((with_reducible refine gate_store (t := 26) (p := 14) rfl ?_); refine ev_storecell rfl 26 _ _ rfl rfl (w.heap.size + 1 + 1) 3 (.slice B11_ z.2.2.2.1.length e12_) (.slice none 0 0) (d2_ ++ [.int .i64 a.2.2.1]) [.slice none 0 0, .slice none 0 0] rfl rfl (E.out.box 2 rfl) (by first | rfl | (simp only [aA, aN, aL]; first | done | rfl)) (by simp only [List.length_append, List.length_cons, List.length_nil, Ld2_.out]) (by kernel_rfl) rfl rfl ?_; intro W13_ hp hn; replace E := E.out.put2 2 hp hn (by have o := O.out; dsimp only [Off, OffA, Fct.box, Fct.made, List.set]; and_intros <;> first | trivial | omega); clear hp hn) | ((with_reducible refine gate_dst (N := 16) rfl ?_); refine ev_loadcell rfl 26 _ rfl w.heap.size 4 ([vp0] ++ ([vp1] ++ ([.int .i64 a.2.2.1] ++ [vp3]))) (vp4) [vp5] rfl (E.out.box 4 rfl) (by rw [Ep.out]; first | done | rfl | (simp only [aA, aN, aL]; first | done | rfl)) (rfl) Try.underlying26 rfl ?_))
 ((with_reducible refine (toInts_c k a.2.2.2.2.1 z.2.2.2.2.1 _ (E.out.K Kp4.out) F3.out).mono ?_); rintro e w14_ ⟨d15_, rfl, Md15_, hb⟩)
 have q := E.out.made4 O.out 1 rfl Md15_ hb; clear O E Md15_ hb; obtain ⟨n16_, m17_, Ld15_, Od15_, O, E⟩ := q
 obtain ⟨B18_, e19_, hv, -⟩ := E.out.mk_ 0 rfl; injection hv with hv; subst hv
 go_wp2_with (first | ((with_reducible refine gate_store (t := 26) (p := 18) rfl ?_); refine ev_storecell rfl 26 _ _ rfl rfl (w.heap.size + 1 + 1) 4 (.slice B18_ z.2.2.2.2.1.length e19_) (.slice none 0 0) (d2_ ++ ([.int .i64 a.2.2.1] ++ [.slice B11_ z.2.2.2.1.length e12_])) [.slice none 0 0] rfl rfl (E.out.box 3 rfl) (by first | rfl | (simp only [aA, aN, aL]; first | done | rfl)) (by simp only [List.length_append, List.length_cons, List.length_nil, Ld2_.out]) (by kernel_rfl) rfl rfl ?_; intro W20_ hp hn; replace E := E.out.put2 3 hp hn (by have o := O.out; dsimp only [Off, OffA, Fct.box, Fct.made, List.set]; and_intros <;> first | trivial | omega); clear hp hn) | ((with_reducible refine gate_dst (N := 20) rfl ?_); refine ev_loadcell rfl 26 _ rfl w.heap.size 5 ([vp0] ++ ([vp1] ++ ([.int .i64 a.2.2.1] ++ ([vp3] ++ [vp4])))) (vp5) [] rfl (E.out.box 5 rfl) (by rw [Ep.out]; first | done | rfl | (simp only [aA, aN, aL]; first | done | rfl)) (rfl) Try.underlying26 rfl ?_))
 ((with_reducible refine (toInts_c k a.2.2.2.2.2 z.2.2.2.2.2 _ (E.out.K Kp5.out) F4.out).mono ?_); rintro e w21_ ⟨d22_, rfl, Md22_, hb⟩)
 have q := E.out.made4 O.out 1 rfl Md22_ hb; clear O E Md22_ hb; obtain ⟨n23_, m24_, Ld22_, Od22_, O, E⟩ := q
 obtain ⟨B25_, e26_, hv, -⟩ := E.out.mk_ 0 rfl; injection hv with hv; subst hv
 obtain ⟨c28_, Ec28_, Lc28_, Oc28_⟩ := lump_ (d2_ ++ ([.int .i64 a.2.2.1] ++ ([.slice B11_ z.2.2.2.1.length e12_] ++ ([.slice B18_ z.2.2.2.2.1.length e19_] ++ [.slice B25_ z.2.2.2.2.2.length e26_])))) 6 (by simp only [List.length_append, List.length_cons, List.length_nil, Ld2_.out]) (ones_app Od2_.out (ones_app (ones1 rfl) (ones_app (ones1 rfl) (ones_app (ones1 rfl) (ones1 rfl)))))
 go_wp2_with (first | ((with_reducible refine gate_store (t := 26) (p := 22) rfl ?_); refine ev_storecell rfl 26 _ _ rfl rfl (w.heap.size + 1 + 1) 5 (.slice B25_ z.2.2.2.2.2.length e26_) (.slice none 0 0) (d2_ ++ ([.int .i64 a.2.2.1] ++ ([.slice B11_ z.2.2.2.1.length e12_] ++ [.slice B18_ z.2.2.2.2.1.length e19_]))) [] rfl rfl (E.out.box 4 rfl) (by first | rfl | (simp only [aA, aN, aL]; first | done | rfl)) (by simp only [List.length_append, List.length_cons, List.length_nil, Ld2_.out]) (by kernel_rfl) rfl rfl ?_; intro W27_ hp hn; replace E := E.out.put2 4 hp hn (by have o := O.out; dsimp only [Off, OffA, Fct.box, Fct.made, List.set]; and_intros <;> first | trivial | omega); clear hp hn) | ((with_reducible refine gate_dst (N := 23) rfl ?_); refine ev_loadpart rfl 34 _ rfl (w.heap.size + 1 + 1) 0 [] c28_ [] _ rfl (E.out.box 4 rfl) (by simp only [aA, aN, aL]; rw [Ec28_.out]; first | done | rfl | (simp only [aA, aN, aL]; first | done | rfl)) (rfl) Try.underlying34 rfl (by rw [Lc28_.out]; kernel_rfl) ?_) | ((with_reducible refine gate_store (t := 34) (p := 2) rfl ?_); refine ev_storepart rfl 34 _ _ rfl rfl (w.heap.size + 1) 0 c28_ [] Z34 [] rfl rfl (E.out.box 5 rfl) (by first | rfl | (simp only [aA, aN, aL]; first | done | rfl)) (rfl) (by rw [Lc28_.out]; rfl) (by rw [Lc28_.out]; kernel_rfl) Oc28_.out ?_; intro W29_ hp hn; replace E := E.out.put2 5 hp hn (by have o := O.out; dsimp only [Off, OffA, Fct.box, Fct.made, List.set]; and_intros <;> first | trivial | omega); clear hp hn))
 have BX := Aside0.mk (show _ = some (Obj.cells (c28_ : List Value).toArray 34 (0, 0)) from by first | exact (E.out.box 5 rfl) | simpa only [aA, aN, aL] using (E.out.box 5 rfl))
 refine bodyPost_ret (oresults_c rfl _ _ (w.heap.size + 1) 34 _ _ _ rfl BX.out Try.underlying34 rfl (by rw [List.size_toArray, show (c28_ : List Value).length = 6 from Lc28_.out]; kernel_rfl)) rfl ?_
 have e_ : ((z.1, z.2.1, a.2.2.1, z.2.2.2.1, z.2.2.2.2.1, z.2.2.2.2.2) : (List ByteArray × List S135 × Int × List Int × List Int × List Int)) = z := by (try simp only [← F1.out]) <;> rfl
 rw [← e_]
 exact ⟨_, rfl, (by rw [Ec28_.out]; exact fresh (d := kWork) (kWork_of2 (E.out.made 3 rfl) (arow_of_srow (E.out.made 2 rfl)) (arow_of_srow (E.out.made 1 rfl)) (arow_of_srow (E.out.made 0 rfl)) (fun k h1 h2 => by have o := O.out; (try simp only [Iv, true_and, or_false, false_or] at h1 h2) <;> omega) (fun k h1 h2 => by have o := O.out; (try simp only [Iv, true_and, or_false, false_or] at h1 h2) <;> omega) (fun k h1 h2 => by have o := O.out; (try simp only [Iv, true_and, or_false, false_or] at h1 h2) <;> omega)) (Nat.le_refl _)), E.out.below⟩
def EqTxn (k : Nat) (z : (S53 × (List ByteArray × List S135 × Int × List Int × List Int × List Int) × Int)) : Prop := eqMeta_c_f k z.1 z.1 = some true ∧ EqWork k z.2.1
theorem eqTxn_c (k : Nat) (z : (S53 × (List ByteArray × List S135 × Int × List Int × List Int × List Int) × Int)) {cs ds : List Value} (w : World) (h : kTxn.K w z cs) (h2 : kTxn.K w z ds) (hf : EqTxn k z) :
  Calls Try.prog 42 #[.agg cs.toArray, .agg ds.toArray] w fun e w' => e = .returned (.bool true) ∧ Below w.heap.size w w' := by
 have hwp := h
 obtain ⟨cp0, _, rfl, hp0, cp1, cp2, rfl, hp1, hp2⟩ := h
 obtain rfl : cp2 = [.int .i64 z.2.2] := hp2
 obtain ⟨ep, he⟩ : ∃ cs, cs = cp0 ++ (cp1 ++ ([.int .i64 z.2.2])) := ⟨_, rfl⟩; rw [← he] at hwp ⊢; have Ep := Aside0.mk he; have Wp := Aside0.mk hwp; have Np := Aside0.mk (show ep.length = 11 from Kd.K_len _ hwp); clear he hwp
 have Kp0 := Aside0.mk hp0; have Lp0 := Aside0.mk (show cp0.length = 4 from Kd.K_len _ hp0); clear hp0
 have Kp1 := Aside0.mk hp1; have Lp1 := Aside0.mk (show cp1.length = 6 from Kd.K_len _ hp1); clear hp1
 have hwq := h2
 obtain ⟨cq0, _, rfl, hq0, cq1, cq2, rfl, hq1, hq2⟩ := h2
 obtain rfl : cq2 = [.int .i64 z.2.2] := hq2
 obtain ⟨eq, he⟩ : ∃ cs, cs = cq0 ++ (cq1 ++ ([.int .i64 z.2.2])) := ⟨_, rfl⟩; rw [← he] at hwq ⊢; have Eq := Aside0.mk he; have Wq := Aside0.mk hwq; have Nq := Aside0.mk (show eq.length = 11 from Kd.K_len _ hwq); clear he hwq
 have Kq0 := Aside0.mk hq0; have Lq0 := Aside0.mk (show cq0.length = 4 from Kd.K_len _ hq0); clear hq0
 have Kq1 := Aside0.mk hq1; have Lq1 := Aside0.mk (show cq1.length = 6 from Kd.K_len _ hq1); clear hq1
 obtain ⟨fF0, fF1⟩ := hf
 have F0 := Aside0.mk fF0; clear fF0
 have F1 := Aside0.mk fF1; clear fF1
 have O := Aside0.mk (Nat.le_refl w.heap.size)
 have E := Aside0.mk (Env.start w)
 go_enter Try.func42, Try.ntmps42
 go_wp2_with (first | ((with_reducible refine gate_dst (N := 6) rfl ?_); replace O := Aside0.mk (And.intro E.out.le O.out); replace E := Aside0.mk (E.out.alloc ep 56 (g := w.heap.size) rfl); replace E := Aside0.mk (E.out.alloc eq 56 (g := (w.heap.size + 1)) (by simp)); refine ev_loadpart rfl 53 _ rfl w.heap.size 0 [] cp0 (cp1 ++ [.int .i64 z.2.2]) _ rfl (E.out.box 1 rfl) (by rw [Ep.out]; first | done | rfl | (simp only [aA, aN, aL]; first | done | rfl)) (rfl) Try.underlying53 rfl (by rw [Lp0.out]; kernel_rfl) ?_) | ((with_reducible refine gate_dst (N := 8) rfl ?_); refine ev_loadpart rfl 53 _ rfl (w.heap.size + 1) 0 [] cq0 (cq1 ++ [.int .i64 z.2.2]) _ rfl (E.out.box 0 rfl) (by rw [Eq.out]; first | done | rfl | (simp only [aA, aN, aL]; first | done | rfl)) (rfl) Try.underlying53 rfl (by rw [Lq0.out]; kernel_rfl) ?_))
 ((with_reducible refine (eqMeta_c k z.1 z.1 true _ (E.out.K Kp0.out) (E.out.K Kq0.out) F0.out).mono ?_); rintro e w1_ ⟨rfl, hb⟩)
 replace E := Aside0.mk (E.out.call hb); clear hb
 go_wp2_with (first | ((with_reducible refine gate_dst (N := 12) rfl ?_); refine ev_loadpart rfl 34 _ rfl w.heap.size 4 cp0 cp1 [.int .i64 z.2.2] _ rfl (E.out.box 1 rfl) (by rw [Ep.out]; first | done | rfl | (simp only [aA, aN, aL]; first | done | rfl)) (Lp0.out) Try.underlying34 rfl (by rw [Lp1.out]; kernel_rfl) ?_) | ((with_reducible refine gate_dst (N := 14) rfl ?_); refine ev_loadpart rfl 34 _ rfl (w.heap.size + 1) 4 cq0 cq1 [.int .i64 z.2.2] _ rfl (E.out.box 0 rfl) (by rw [Eq.out]; first | done | rfl | (simp only [aA, aN, aL]; first | done | rfl)) (Lq0.out) Try.underlying34 rfl (by rw [Lq1.out]; kernel_rfl) ?_))
 ((with_reducible refine (eqWork_c k z.2.1 _ (E.out.K Kp1.out) (E.out.K Kq1.out) F1.out).mono ?_); rintro e w2_ ⟨rfl, hb⟩)
 replace E := Aside0.mk (E.out.call hb); clear hb
 go_wp2_with (first | ((with_reducible refine gate_dst (N := 18) rfl ?_); refine ev_loadcell rfl 3 _ rfl w.heap.size 10 (cp0 ++ cp1) (.int .i64 z.2.2) [] rfl (E.out.box 1 rfl) (by rw [Ep.out]; first | done | rfl | (simp only [aA, aN, aL]; first | done | rfl)) (by simp only [List.length_append, List.length_cons, List.length_nil, Lp0.out, Lp1.out]) Try.underlying3 rfl ?_) | ((with_reducible refine gate_dst (N := 20) rfl ?_); refine ev_loadcell rfl 3 _ rfl (w.heap.size + 1) 10 (cq0 ++ cq1) (.int .i64 z.2.2) [] rfl (E.out.box 0 rfl) (by rw [Eq.out]; first | done | rfl | (simp only [aA, aN, aL]; first | done | rfl)) (by simp only [List.length_append, List.length_cons, List.length_nil, Lq0.out, Lq1.out]) Try.underlying3 rfl ?_))
 go_ret
 exact ⟨rfl, E.out.below⟩
def HeldTxn (k : Nat) (z : (S53 × (List ByteArray × List S135 × Int × List Int × List Int × List Int) × Int)) (a r : Int) : Prop := ∃ t1 : Int, heldMeta_c_f k z.1 a = some t1 ∧ ¬ t1 < 0 ∧ HeldWork k z.2.1 t1 r ∧ ¬ r < 0
theorem heldTxn_c (k : Nat) (z : (S53 × (List ByteArray × List S135 × Int × List Int × List Int × List Int) × Int)) (a r : Int) {cs : List Value} (w : World) (h : kTxn.K w z cs) (hf : HeldTxn k z a r) :
  Calls Try.prog 75 #[.agg cs.toArray, .int .i64 a] w fun e w' => e = .returned (.int .i64 r) ∧ Below w.heap.size w w' := by
 have hwp := h
 obtain ⟨cp0, _, rfl, hp0, cp1, cp2, rfl, hp1, hp2⟩ := h
 obtain rfl : cp2 = [.int .i64 z.2.2] := hp2
 obtain ⟨ep, he⟩ : ∃ cs, cs = cp0 ++ (cp1 ++ ([.int .i64 z.2.2])) := ⟨_, rfl⟩; rw [← he] at hwp ⊢; have Ep := Aside0.mk he; have Wp := Aside0.mk hwp; have Np := Aside0.mk (show ep.length = 11 from Kd.K_len _ hwp); clear he hwp
 have Kp0 := Aside0.mk hp0; have Lp0 := Aside0.mk (show cp0.length = 4 from Kd.K_len _ hp0); clear hp0
 have Kp1 := Aside0.mk hp1; have Lp1 := Aside0.mk (show cp1.length = 6 from Kd.K_len _ hp1); clear hp1
 obtain ⟨t1, f0, n0, f1, n1⟩ := hf
 have F0 := Aside0.mk f0; clear f0; replace n0 : decide (t1 < 0) = false := decide_eq_false n0
 have F1 := Aside0.mk f1; clear f1; replace n1 : decide (r < 0) = false := decide_eq_false n1
 have O := Aside0.mk (Nat.le_refl w.heap.size)
 have E := Aside0.mk (Env.start w)
 go_enter Try.func75, Try.ntmps75
 go_wp2_with (first | ((with_reducible refine gate_dst (N := 6) rfl ?_); replace O := Aside0.mk (And.intro E.out.le O.out); replace E := Aside0.mk (E.out.alloc ep 56 (g := w.heap.size) rfl); refine ev_loadpart rfl 53 _ rfl w.heap.size 0 [] cp0 (cp1 ++ [.int .i64 z.2.2]) _ rfl (E.out.box 0 rfl) (by rw [Ep.out]; first | done | rfl | (simp only [aA, aN, aL]; first | done | rfl)) (rfl) Try.underlying53 rfl (by rw [Lp0.out]; kernel_rfl) ?_))
 ((with_reducible refine (heldMeta_c k z.1 a t1 _ (E.out.K Kp0.out) F0.out).mono ?_); rintro e w1_ ⟨rfl, hb⟩)
 replace E := Aside0.mk (E.out.call hb); clear hb
 go_wp2_with (first | ((with_reducible refine gate_dst (N := 12) rfl ?_); refine ev_loadpart rfl 34 _ rfl w.heap.size 4 cp0 cp1 [.int .i64 z.2.2] _ rfl (E.out.box 0 rfl) (by rw [Ep.out]; first | done | rfl | (simp only [aA, aN, aL]; first | done | rfl)) (Lp0.out) Try.underlying34 rfl (by rw [Lp1.out]; kernel_rfl) ?_))
 ((with_reducible refine (heldWork_c k z.2.1 t1 r _ (E.out.K Kp1.out) F1.out).mono ?_); rintro e w2_ ⟨rfl, hb⟩)
 replace E := Aside0.mk (E.out.call hb); clear hb
 go_wp2_with fail
 go_ret
 exact ⟨rfl, E.out.below⟩
def ToTxn (k : Nat) (a : (S69 × (List ByteArray × List S140 × Int × List Int × List Int × List Int) × Int)) (z : (S53 × (List ByteArray × List S135 × Int × List Int × List Int × List Int) × Int)) : Prop := laws_toMeta.f k a.1.f0 a.1.f1 a.1.f2 a.1.f3 = some (z.1.f0, z.1.f1, z.1.f2, z.1.f3) ∧ ToWork k a.2.1 z.2.1 ∧ z.2.2 = a.2.2
theorem toTxn_c (k : Nat) (a : (S69 × (List ByteArray × List S140 × Int × List Int × List Int × List Int) × Int)) (z : (S53 × (List ByteArray × List S135 × Int × List Int × List Int × List Int) × Int)) {cs : List Value} (w : World) (h : kTxnL.K w a cs) (hf : ToTxn k a z) :
  Calls Try.prog 39 #[.agg cs.toArray] w fun e w' => ∃ ds : List Value, e = .returned (.agg ds.toArray) ∧ kTxn.M w' w.heap.size (Fr w w') z ds ∧ Below w.heap.size w w' := by
 have hwp := h
 obtain ⟨cp0, _, rfl, hp0, cp1, cp2, rfl, hp1, hp2⟩ := h
 obtain rfl : cp2 = [.int .i64 a.2.2] := hp2
 obtain ⟨ep, he⟩ : ∃ cs, cs = cp0 ++ (cp1 ++ ([.int .i64 a.2.2])) := ⟨_, rfl⟩; rw [← he] at hwp ⊢; have Ep := Aside0.mk he; have Wp := Aside0.mk hwp; have Np := Aside0.mk (show ep.length = 11 from Kd.K_len _ hwp); clear he hwp
 have Kp0 := Aside0.mk hp0; have Lp0 := Aside0.mk (show cp0.length = 4 from Kd.K_len _ hp0); clear hp0
 have Kp1 := Aside0.mk hp1; have Lp1 := Aside0.mk (show cp1.length = 6 from Kd.K_len _ hp1); clear hp1
 obtain ⟨fF0, fF1, fF2⟩ := hf
 have F0 := Aside0.mk fF0; clear fF0
 have F1 := Aside0.mk fF1; clear fF1
 have F2 := Aside0.mk fF2; clear fF2
 have O := Aside0.mk (Nat.le_refl w.heap.size)
 have E := Aside0.mk (Env.start w)
 go_enter Try.func39, Try.ntmps39
 go_wp2_with (first | ((with_reducible refine gate_dst (N := 5) rfl ?_); replace O := Aside0.mk (And.intro E.out.le O.out); replace E := Aside0.mk (E.out.alloc ep 72 (g := w.heap.size) rfl); replace E := Aside0.mk (E.out.alloc Z56 56 (g := (w.heap.size + 1)) (by simp)); replace E := Aside0.mk (E.out.alloc Z56 56 (g := (w.heap.size + 1 + 1)) (by simp)); refine ev_loadpart rfl 69 _ rfl w.heap.size 0 [] cp0 (cp1 ++ [.int .i64 a.2.2]) _ rfl (E.out.box 2 rfl) (by rw [Ep.out]; first | done | rfl | (simp only [aA, aN, aL]; first | done | rfl)) (rfl) Try.underlying69 rfl (by rw [Lp0.out]; kernel_rfl) ?_))
 ((with_reducible refine (toMeta_o k a.1 z.1 _ (E.out.K Kp0.out) F0.out).mono ?_); rintro e w1_ ⟨d2_, rfl, Md2_, hb⟩)
 have q := E.out.made4 O.out 4 rfl Md2_ hb; clear O E Md2_ hb; obtain ⟨n3_, m4_, Ld2_, Od2_, O, E⟩ := q
 go_wp2_with (first | ((with_reducible refine gate_store (t := 53) (p := 7) rfl ?_); refine ev_storepart rfl 53 _ _ rfl rfl (w.heap.size + 1 + 1) 0 d2_ [] [.int .i64 0, .int .i64 0, .int .i64 0, .slice none 0 0] [.slice none 0 0, .slice none 0 0, .int .i64 0, .slice none 0 0, .slice none 0 0, .slice none 0 0, .int .i64 0] rfl rfl (E.out.box 1 rfl) (by first | rfl | (simp only [aA, aN, aL]; first | done | rfl)) (rfl) (by rw [Ld2_.out]; rfl) (by rw [Ld2_.out]; kernel_rfl) Od2_.out ?_; intro W5_ hp hn; replace E := E.out.put2 1 hp hn (by have o := O.out; dsimp only [Off, OffA, Fct.box, Fct.made, List.set]; and_intros <;> first | trivial | omega); clear hp hn) | ((with_reducible refine gate_dst (N := 9) rfl ?_); refine ev_loadpart rfl 28 _ rfl w.heap.size 4 cp0 cp1 [.int .i64 a.2.2] _ rfl (E.out.box 3 rfl) (by rw [Ep.out]; first | done | rfl | (simp only [aA, aN, aL]; first | done | rfl)) (Lp0.out) Try.underlying28 rfl (by rw [Lp1.out]; kernel_rfl) ?_))
 ((with_reducible refine (toWork_c k a.2.1 z.2.1 _ (E.out.K Kp1.out) F1.out).mono ?_); rintro e w6_ ⟨d7_, rfl, Md7_, hb⟩)
 have q := E.out.made4 O.out 6 rfl Md7_ hb; clear O E Md7_ hb; obtain ⟨n8_, m9_, Ld7_, Od7_, O, E⟩ := q
 obtain ⟨c12_, Ec12_, Lc12_, Oc12_⟩ := lump_ (d2_ ++ (d7_ ++ [.int .i64 a.2.2])) 11 (by simp only [List.length_append, List.length_cons, List.length_nil, Ld2_.out, Ld7_.out]) (ones_app Od2_.out (ones_app Od7_.out (ones1 rfl)))
 go_wp2_with (first | ((with_reducible refine gate_store (t := 34) (p := 11) rfl ?_); refine ev_storepart rfl 34 _ _ rfl rfl (w.heap.size + 1 + 1) 4 d7_ d2_ [.slice none 0 0, .slice none 0 0, .int .i64 0, .slice none 0 0, .slice none 0 0, .slice none 0 0] [.int .i64 0] rfl rfl (E.out.box 2 rfl) (by first | rfl | (simp only [aA, aN, aL]; first | done | rfl)) (Ld2_.out) (by rw [Ld7_.out]; rfl) (by rw [Ld7_.out]; kernel_rfl) Od7_.out ?_; intro W10_ hp hn; replace E := E.out.put2 2 hp hn (by have o := O.out; dsimp only [Off, OffA, Fct.box, Fct.made, List.set]; and_intros <;> first | trivial | omega); clear hp hn) | ((with_reducible refine gate_dst (N := 13) rfl ?_); refine ev_loadcell rfl 3 _ rfl w.heap.size 10 (cp0 ++ cp1) (.int .i64 a.2.2) [] rfl (E.out.box 4 rfl) (by rw [Ep.out]; first | done | rfl | (simp only [aA, aN, aL]; first | done | rfl)) (by simp only [List.length_append, List.length_cons, List.length_nil, Lp0.out, Lp1.out]) Try.underlying3 rfl ?_) | ((with_reducible refine gate_store (t := 3) (p := 14) rfl ?_); refine ev_storecell rfl 3 _ _ rfl rfl (w.heap.size + 1 + 1) 10 (.int .i64 a.2.2) (.int .i64 0) (d2_ ++ d7_) [] rfl rfl (E.out.box 2 rfl) (by first | rfl | (simp only [aA, aN, aL]; first | done | rfl)) (by simp only [List.length_append, List.length_cons, List.length_nil, Ld2_.out, Ld7_.out]) (by kernel_rfl) rfl rfl ?_; intro W11_ hp hn; replace E := E.out.put2 2 hp hn (by have o := O.out; dsimp only [Off, OffA, Fct.box, Fct.made, List.set]; and_intros <;> first | trivial | omega); clear hp hn) | ((with_reducible refine gate_dst (N := 15) rfl ?_); refine ev_loadpart rfl 56 _ rfl (w.heap.size + 1 + 1) 0 [] c12_ [] _ rfl (E.out.box 2 rfl) (by simp only [aA, aN, aL]; rw [Ec12_.out]; first | done | rfl | (simp only [aA, aN, aL]; first | done | rfl)) (rfl) Try.underlying56 rfl (by rw [Lc12_.out]; kernel_rfl) ?_) | ((with_reducible refine gate_store (t := 56) (p := 2) rfl ?_); refine ev_storepart rfl 56 _ _ rfl rfl (w.heap.size + 1) 0 c12_ [] Z56 [] rfl rfl (E.out.box 3 rfl) (by first | rfl | (simp only [aA, aN, aL]; first | done | rfl)) (rfl) (by rw [Lc12_.out]; rfl) (by rw [Lc12_.out]; kernel_rfl) Oc12_.out ?_; intro W13_ hp hn; replace E := E.out.put2 3 hp hn (by have o := O.out; dsimp only [Off, OffA, Fct.box, Fct.made, List.set]; and_intros <;> first | trivial | omega); clear hp hn))
 have BX := Aside0.mk (show _ = some (Obj.cells (c12_ : List Value).toArray 56 (0, 0)) from by first | exact (E.out.box 3 rfl) | simpa only [aA, aN, aL] using (E.out.box 3 rfl))
 refine bodyPost_ret (oresults_c rfl _ _ (w.heap.size + 1) 56 _ _ _ rfl BX.out Try.underlying56 rfl (by rw [List.size_toArray, show (c12_ : List Value).length = 11 from Lc12_.out]; kernel_rfl)) rfl ?_
 have e_ : ((z.1, z.2.1, a.2.2) : (S53 × (List ByteArray × List S135 × Int × List Int × List Int × List Int) × Int)) = z := by (try simp only [← F2.out]) <;> rfl
 rw [← e_]
 exact ⟨_, rfl, (by rw [Ec12_.out]; exact fresh (d := kTxn) (comb (E.out.made 1 rfl) (comb (E.out.made 0 rfl) Mint (fun k h1 h2 => by have o := O.out; (try simp only [Iv, true_and, or_false, false_or] at h1 h2) <;> omega)) (fun k h1 h2 => by have o := O.out; (try simp only [Iv, true_and, or_false, false_or] at h1 h2) <;> omega)) (Nat.le_refl _)), E.out.below⟩
def EqStore (k : Nat) (z : ((List ByteArray × List S135) × S53 × List S118 × (S53 × (List ByteArray × List S135 × Int × List Int × List Int × List Int) × Int) × Bool × Bool)) : Prop := eqDisk_c_f k z.1 z.1 = some true ∧ eqMeta_c_f k z.2.1 z.2.1 = some true ∧ laws_eqReaderS.f k z.2.2.1 z.2.2.1 = some true ∧ EqTxn k z.2.2.2.1
theorem eqStore_c (k : Nat) (z : ((List ByteArray × List S135) × S53 × List S118 × (S53 × (List ByteArray × List S135 × Int × List Int × List Int × List Int) × Int) × Bool × Bool)) {cs ds : List Value} (w : World) (h : kStore.K w z cs) (h2 : kStore.K w z ds) (hf : EqStore k z) :
  Calls Try.prog 26 #[.agg cs.toArray, .agg ds.toArray] w fun e w' => e = .returned (.bool true) ∧ Below w.heap.size w w' := by
 have hwp := h
 obtain ⟨cp0, _, rfl, hp0, cp1, _, rfl, hp1, cp2, _, rfl, hp2, cp3, _, rfl, hp3, cp4, cp5, rfl, hp4, hp5⟩ := h
 have gp2 := hp2; obtain ⟨A_, k_, rfl, -, -⟩ := hp2; obtain ⟨vp2, hv⟩ : ∃ v, v = Value.slice A_ (z.2.2.1).length k_ := ⟨_, rfl⟩; rw [← hv] at gp2 hwp ⊢; clear hv
 obtain rfl : cp4 = [.bool z.2.2.2.2.1] := hp4
 obtain rfl : cp5 = [.bool z.2.2.2.2.2] := hp5
 obtain ⟨ep, he⟩ : ∃ cs, cs = cp0 ++ (cp1 ++ ([vp2] ++ (cp3 ++ ([.bool z.2.2.2.2.1] ++ ([.bool z.2.2.2.2.2]))))) := ⟨_, rfl⟩; rw [← he] at hwp ⊢; have Ep := Aside0.mk he; have Wp := Aside0.mk hwp; have Np := Aside0.mk (show ep.length = 20 from Kd.K_len _ hwp); clear he hwp
 have Kp0 := Aside0.mk hp0; have Lp0 := Aside0.mk (show cp0.length = 2 from Kd.K_len _ hp0); clear hp0
 have Kp1 := Aside0.mk hp1; have Lp1 := Aside0.mk (show cp1.length = 4 from Kd.K_len _ hp1); clear hp1
 have Kp2 := Aside0.mk gp2; clear gp2
 have Kp3 := Aside0.mk hp3; have Lp3 := Aside0.mk (show cp3.length = 11 from Kd.K_len _ hp3); clear hp3
 have hwq := h2
 obtain ⟨cq0, _, rfl, hq0, cq1, _, rfl, hq1, cq2, _, rfl, hq2, cq3, _, rfl, hq3, cq4, cq5, rfl, hq4, hq5⟩ := h2
 have gq2 := hq2; obtain ⟨A_, k_, rfl, -, -⟩ := hq2; obtain ⟨vq2, hv⟩ : ∃ v, v = Value.slice A_ (z.2.2.1).length k_ := ⟨_, rfl⟩; rw [← hv] at gq2 hwq ⊢; clear hv
 obtain rfl : cq4 = [.bool z.2.2.2.2.1] := hq4
 obtain rfl : cq5 = [.bool z.2.2.2.2.2] := hq5
 obtain ⟨eq, he⟩ : ∃ cs, cs = cq0 ++ (cq1 ++ ([vq2] ++ (cq3 ++ ([.bool z.2.2.2.2.1] ++ ([.bool z.2.2.2.2.2]))))) := ⟨_, rfl⟩; rw [← he] at hwq ⊢; have Eq := Aside0.mk he; have Wq := Aside0.mk hwq; have Nq := Aside0.mk (show eq.length = 20 from Kd.K_len _ hwq); clear he hwq
 have Kq0 := Aside0.mk hq0; have Lq0 := Aside0.mk (show cq0.length = 2 from Kd.K_len _ hq0); clear hq0
 have Kq1 := Aside0.mk hq1; have Lq1 := Aside0.mk (show cq1.length = 4 from Kd.K_len _ hq1); clear hq1
 have Kq2 := Aside0.mk gq2; clear gq2
 have Kq3 := Aside0.mk hq3; have Lq3 := Aside0.mk (show cq3.length = 11 from Kd.K_len _ hq3); clear hq3
 obtain ⟨fF0, fF1, fF2, fF3⟩ := hf
 have F0 := Aside0.mk fF0; clear fF0
 have F1 := Aside0.mk fF1; clear fF1
 have F2 := Aside0.mk fF2; clear fF2
 have F3 := Aside0.mk fF3; clear fF3
 have O := Aside0.mk (Nat.le_refl w.heap.size)
 have E := Aside0.mk (Env.start w)
 go_enter Try.func26, Try.ntmps26
 go_wp2_with (first | ((with_reducible refine gate_dst (N := 6) rfl ?_); replace O := Aside0.mk (And.intro E.out.le O.out); replace E := Aside0.mk (E.out.alloc ep 58 (g := w.heap.size) rfl); replace E := Aside0.mk (E.out.alloc eq 58 (g := (w.heap.size + 1)) (by simp)); refine ev_loadpart rfl 32 _ rfl w.heap.size 0 [] cp0 (cp1 ++ ([vp2] ++ (cp3 ++ ([.bool z.2.2.2.2.1] ++ [.bool z.2.2.2.2.2])))) _ rfl (E.out.box 1 rfl) (by rw [Ep.out]; first | done | rfl | (simp only [aA, aN, aL]; first | done | rfl)) (rfl) Try.underlying32 rfl (by rw [Lp0.out]; kernel_rfl) ?_) | ((with_reducible refine gate_dst (N := 8) rfl ?_); refine ev_loadpart rfl 32 _ rfl (w.heap.size + 1) 0 [] cq0 (cq1 ++ ([vq2] ++ (cq3 ++ ([.bool z.2.2.2.2.1] ++ [.bool z.2.2.2.2.2])))) _ rfl (E.out.box 0 rfl) (by rw [Eq.out]; first | done | rfl | (simp only [aA, aN, aL]; first | done | rfl)) (rfl) Try.underlying32 rfl (by rw [Lq0.out]; kernel_rfl) ?_))
 ((with_reducible refine (eqDisk_c k z.1 z.1 true _ (E.out.K Kp0.out) (E.out.K Kq0.out) F0.out).mono ?_); rintro e w1_ ⟨rfl, hb⟩)
 replace E := Aside0.mk (E.out.call hb); clear hb
 go_wp2_with (first | ((with_reducible refine gate_dst (N := 12) rfl ?_); refine ev_loadpart rfl 53 _ rfl w.heap.size 2 cp0 cp1 ([vp2] ++ (cp3 ++ ([.bool z.2.2.2.2.1] ++ [.bool z.2.2.2.2.2]))) _ rfl (E.out.box 1 rfl) (by rw [Ep.out]; first | done | rfl | (simp only [aA, aN, aL]; first | done | rfl)) (Lp0.out) Try.underlying53 rfl (by rw [Lp1.out]; kernel_rfl) ?_) | ((with_reducible refine gate_dst (N := 14) rfl ?_); refine ev_loadpart rfl 53 _ rfl (w.heap.size + 1) 2 cq0 cq1 ([vq2] ++ (cq3 ++ ([.bool z.2.2.2.2.1] ++ [.bool z.2.2.2.2.2]))) _ rfl (E.out.box 0 rfl) (by rw [Eq.out]; first | done | rfl | (simp only [aA, aN, aL]; first | done | rfl)) (Lq0.out) Try.underlying53 rfl (by rw [Lq1.out]; kernel_rfl) ?_))
 ((with_reducible refine (eqMeta_c k z.2.1 z.2.1 true _ (E.out.K Kp1.out) (E.out.K Kq1.out) F1.out).mono ?_); rintro e w2_ ⟨rfl, hb⟩)
 replace E := Aside0.mk (E.out.call hb); clear hb
 go_wp2_with (first | ((with_reducible refine gate_dst (N := 18) rfl ?_); refine ev_loadcell rfl 54 _ rfl w.heap.size 6 (cp0 ++ cp1) (vp2) (cp3 ++ ([.bool z.2.2.2.2.1] ++ [.bool z.2.2.2.2.2])) rfl (E.out.box 1 rfl) (by rw [Ep.out]; first | done | rfl | (simp only [aA, aN, aL]; first | done | rfl)) (by simp only [List.length_append, List.length_cons, List.length_nil, Lp0.out, Lp1.out]) Try.underlying54 rfl ?_) | ((with_reducible refine gate_dst (N := 20) rfl ?_); refine ev_loadcell rfl 54 _ rfl (w.heap.size + 1) 6 (cq0 ++ cq1) (vq2) (cq3 ++ ([.bool z.2.2.2.2.1] ++ [.bool z.2.2.2.2.2])) rfl (E.out.box 0 rfl) (by rw [Eq.out]; first | done | rfl | (simp only [aA, aN, aL]; first | done | rfl)) (by simp only [List.length_append, List.length_cons, List.length_nil, Lq0.out, Lq1.out]) Try.underlying54 rfl ?_))
 ((with_reducible refine (eqReaders_c k z.2.2.1 _ (E.out.K Kp2.out) (E.out.K Kq2.out) F2.out).mono ?_); rintro e w3_ ⟨rfl, hb⟩)
 replace E := Aside0.mk (E.out.call hb); clear hb
 go_wp2_with (first | ((with_reducible refine gate_dst (N := 24) rfl ?_); refine ev_loadpart rfl 56 _ rfl w.heap.size 7 (cp0 ++ (cp1 ++ [vp2])) cp3 ([.bool z.2.2.2.2.1] ++ [.bool z.2.2.2.2.2]) _ rfl (E.out.box 1 rfl) (by rw [Ep.out]; first | done | rfl | (simp only [aA, aN, aL]; first | done | rfl)) (by simp only [List.length_append, List.length_cons, List.length_nil, Lp0.out, Lp1.out]) Try.underlying56 rfl (by rw [Lp3.out]; kernel_rfl) ?_) | ((with_reducible refine gate_dst (N := 26) rfl ?_); refine ev_loadpart rfl 56 _ rfl (w.heap.size + 1) 7 (cq0 ++ (cq1 ++ [vq2])) cq3 ([.bool z.2.2.2.2.1] ++ [.bool z.2.2.2.2.2]) _ rfl (E.out.box 0 rfl) (by rw [Eq.out]; first | done | rfl | (simp only [aA, aN, aL]; first | done | rfl)) (by simp only [List.length_append, List.length_cons, List.length_nil, Lq0.out, Lq1.out]) Try.underlying56 rfl (by rw [Lq3.out]; kernel_rfl) ?_))
 ((with_reducible refine (eqTxn_c k z.2.2.2.1 _ (E.out.K Kp3.out) (E.out.K Kq3.out) F3.out).mono ?_); rintro e w4_ ⟨rfl, hb⟩)
 replace E := Aside0.mk (E.out.call hb); clear hb
 go_wp2_with (first | ((with_reducible refine gate_dst (N := 30) rfl ?_); refine ev_loadcell rfl 4 _ rfl w.heap.size 18 (cp0 ++ (cp1 ++ ([vp2] ++ cp3))) (.bool z.2.2.2.2.1) [.bool z.2.2.2.2.2] rfl (E.out.box 1 rfl) (by rw [Ep.out]; first | done | rfl | (simp only [aA, aN, aL]; first | done | rfl)) (by simp only [List.length_append, List.length_cons, List.length_nil, Lp0.out, Lp1.out, Lp3.out]) Try.underlying4 rfl ?_) | ((with_reducible refine gate_dst (N := 32) rfl ?_); refine ev_loadcell rfl 4 _ rfl (w.heap.size + 1) 18 (cq0 ++ (cq1 ++ ([vq2] ++ cq3))) (.bool z.2.2.2.2.1) [.bool z.2.2.2.2.2] rfl (E.out.box 0 rfl) (by rw [Eq.out]; first | done | rfl | (simp only [aA, aN, aL]; first | done | rfl)) (by simp only [List.length_append, List.length_cons, List.length_nil, Lq0.out, Lq1.out, Lq3.out]) Try.underlying4 rfl ?_) | ((with_reducible refine gate_dst (N := 35) rfl ?_); refine ev_loadcell rfl 4 _ rfl w.heap.size 19 (cp0 ++ (cp1 ++ ([vp2] ++ (cp3 ++ [.bool z.2.2.2.2.1])))) (.bool z.2.2.2.2.2) [] rfl (E.out.box 1 rfl) (by rw [Ep.out]; first | done | rfl | (simp only [aA, aN, aL]; first | done | rfl)) (by simp only [List.length_append, List.length_cons, List.length_nil, Lp0.out, Lp1.out, Lp3.out]) Try.underlying4 rfl ?_) | ((with_reducible refine gate_dst (N := 37) rfl ?_); refine ev_loadcell rfl 4 _ rfl (w.heap.size + 1) 19 (cq0 ++ (cq1 ++ ([vq2] ++ (cq3 ++ [.bool z.2.2.2.2.1])))) (.bool z.2.2.2.2.2) [] rfl (E.out.box 0 rfl) (by rw [Eq.out]; first | done | rfl | (simp only [aA, aN, aL]; first | done | rfl)) (by simp only [List.length_append, List.length_cons, List.length_nil, Lq0.out, Lq1.out, Lq3.out]) Try.underlying4 rfl ?_))
 go_ret
 exact ⟨rfl, E.out.below⟩
def HeldStore (k : Nat) (z : ((List ByteArray × List S135) × S53 × List S118 × (S53 × (List ByteArray × List S135 × Int × List Int × List Int × List Int) × Int) × Bool × Bool)) (a r : Int) : Prop := ∃ t1 t2 t3 : Int, heldDisk_c_f k z.1 a = some t1 ∧ ¬ t1 < 0 ∧ heldMeta_c_f k z.2.1 t1 = some t2 ∧ ¬ t2 < 0 ∧ laws_heldReaderS.f k z.2.2.1 t2 = some t3 ∧ ¬ t3 < 0 ∧ HeldTxn k z.2.2.2.1 t3 r ∧ ¬ r < 0
theorem heldStore_c (k : Nat) (z : ((List ByteArray × List S135) × S53 × List S118 × (S53 × (List ByteArray × List S135 × Int × List Int × List Int × List Int) × Int) × Bool × Bool)) (a r : Int) {cs : List Value} (w : World) (h : kStore.K w z cs) (hf : HeldStore k z a r) :
  Calls Try.prog 30 #[.agg cs.toArray, .int .i64 a] w fun e w' => e = .returned (.int .i64 r) ∧ Below w.heap.size w w' := by
 have hwp := h
 obtain ⟨cp0, _, rfl, hp0, cp1, _, rfl, hp1, cp2, _, rfl, hp2, cp3, _, rfl, hp3, cp4, cp5, rfl, hp4, hp5⟩ := h
 have gp2 := hp2; obtain ⟨A_, k_, rfl, -, -⟩ := hp2; obtain ⟨vp2, hv⟩ : ∃ v, v = Value.slice A_ (z.2.2.1).length k_ := ⟨_, rfl⟩; rw [← hv] at gp2 hwp ⊢; clear hv
 obtain rfl : cp4 = [.bool z.2.2.2.2.1] := hp4
 obtain rfl : cp5 = [.bool z.2.2.2.2.2] := hp5
 obtain ⟨ep, he⟩ : ∃ cs, cs = cp0 ++ (cp1 ++ ([vp2] ++ (cp3 ++ ([.bool z.2.2.2.2.1] ++ ([.bool z.2.2.2.2.2]))))) := ⟨_, rfl⟩; rw [← he] at hwp ⊢; have Ep := Aside0.mk he; have Wp := Aside0.mk hwp; have Np := Aside0.mk (show ep.length = 20 from Kd.K_len _ hwp); clear he hwp
 have Kp0 := Aside0.mk hp0; have Lp0 := Aside0.mk (show cp0.length = 2 from Kd.K_len _ hp0); clear hp0
 have Kp1 := Aside0.mk hp1; have Lp1 := Aside0.mk (show cp1.length = 4 from Kd.K_len _ hp1); clear hp1
 have Kp2 := Aside0.mk gp2; clear gp2
 have Kp3 := Aside0.mk hp3; have Lp3 := Aside0.mk (show cp3.length = 11 from Kd.K_len _ hp3); clear hp3
 obtain ⟨t1, t2, t3, f0, n0, f1, n1, f2, n2, f3, n3⟩ := hf
 have F0 := Aside0.mk f0; clear f0; replace n0 : decide (t1 < 0) = false := decide_eq_false n0
 have F1 := Aside0.mk f1; clear f1; replace n1 : decide (t2 < 0) = false := decide_eq_false n1
 have F2 := Aside0.mk f2; clear f2; replace n2 : decide (t3 < 0) = false := decide_eq_false n2
 have F3 := Aside0.mk f3; clear f3; replace n3 : decide (r < 0) = false := decide_eq_false n3
 have O := Aside0.mk (Nat.le_refl w.heap.size)
 have E := Aside0.mk (Env.start w)
 go_enter Try.func30, Try.ntmps30
 go_wp2_with (first | ((with_reducible refine gate_dst (N := 6) rfl ?_); replace O := Aside0.mk (And.intro E.out.le O.out); replace E := Aside0.mk (E.out.alloc ep 58 (g := w.heap.size) rfl); refine ev_loadpart rfl 32 _ rfl w.heap.size 0 [] cp0 (cp1 ++ ([vp2] ++ (cp3 ++ ([.bool z.2.2.2.2.1] ++ [.bool z.2.2.2.2.2])))) _ rfl (E.out.box 0 rfl) (by rw [Ep.out]; first | done | rfl | (simp only [aA, aN, aL]; first | done | rfl)) (rfl) Try.underlying32 rfl (by rw [Lp0.out]; kernel_rfl) ?_))
 ((with_reducible refine (heldDisk_c k z.1 a t1 _ (E.out.K Kp0.out) F0.out).mono ?_); rintro e w1_ ⟨rfl, hb⟩)
 replace E := Aside0.mk (E.out.call hb); clear hb
 go_wp2_with (first | ((with_reducible refine gate_dst (N := 12) rfl ?_); refine ev_loadpart rfl 53 _ rfl w.heap.size 2 cp0 cp1 ([vp2] ++ (cp3 ++ ([.bool z.2.2.2.2.1] ++ [.bool z.2.2.2.2.2]))) _ rfl (E.out.box 0 rfl) (by rw [Ep.out]; first | done | rfl | (simp only [aA, aN, aL]; first | done | rfl)) (Lp0.out) Try.underlying53 rfl (by rw [Lp1.out]; kernel_rfl) ?_))
 ((with_reducible refine (heldMeta_c k z.2.1 t1 t2 _ (E.out.K Kp1.out) F1.out).mono ?_); rintro e w2_ ⟨rfl, hb⟩)
 replace E := Aside0.mk (E.out.call hb); clear hb
 go_wp2_with (first | ((with_reducible refine gate_dst (N := 18) rfl ?_); refine ev_loadcell rfl 54 _ rfl w.heap.size 6 (cp0 ++ cp1) (vp2) (cp3 ++ ([.bool z.2.2.2.2.1] ++ [.bool z.2.2.2.2.2])) rfl (E.out.box 0 rfl) (by rw [Ep.out]; first | done | rfl | (simp only [aA, aN, aL]; first | done | rfl)) (by simp only [List.length_append, List.length_cons, List.length_nil, Lp0.out, Lp1.out]) Try.underlying54 rfl ?_))
 ((with_reducible refine (heldReaders_c k z.2.2.1 t2 t3 _ (E.out.K Kp2.out) F2.out).mono ?_); rintro e w3_ ⟨rfl, hb⟩)
 replace E := Aside0.mk (E.out.call hb); clear hb
 go_wp2_with (first | ((with_reducible refine gate_dst (N := 24) rfl ?_); refine ev_loadpart rfl 56 _ rfl w.heap.size 7 (cp0 ++ (cp1 ++ [vp2])) cp3 ([.bool z.2.2.2.2.1] ++ [.bool z.2.2.2.2.2]) _ rfl (E.out.box 0 rfl) (by rw [Ep.out]; first | done | rfl | (simp only [aA, aN, aL]; first | done | rfl)) (by simp only [List.length_append, List.length_cons, List.length_nil, Lp0.out, Lp1.out]) Try.underlying56 rfl (by rw [Lp3.out]; kernel_rfl) ?_))
 ((with_reducible refine (heldTxn_c k z.2.2.2.1 t3 r _ (E.out.K Kp3.out) F3.out).mono ?_); rintro e w4_ ⟨rfl, hb⟩)
 replace E := Aside0.mk (E.out.call hb); clear hb
 go_wp2_with fail
 go_ret
 exact ⟨rfl, E.out.below⟩
def ToStore (k : Nat) (a : ((List ByteArray × List S140) × S69 × List S154 × (S69 × (List ByteArray × List S140 × Int × List Int × List Int × List Int) × Int) × Bool × Bool)) (z : ((List ByteArray × List S135) × S53 × List S118 × (S53 × (List ByteArray × List S135 × Int × List Int × List Int × List Int) × Int) × Bool × Bool)) : Prop := laws_toDisk.f k a.1.1 a.1.2 = some (z.1.1, z.1.2) ∧ laws_toMeta.f k a.2.1.f0 a.2.1.f1 a.2.1.f2 a.2.1.f3 = some (z.2.1.f0, z.2.1.f1, z.2.1.f2, z.2.1.f3) ∧ laws_toReaderS.f k a.2.2.1 = some z.2.2.1 ∧ ToTxn k a.2.2.2.1 z.2.2.2.1 ∧ z.2.2.2.2.1 = a.2.2.2.2.1 ∧ z.2.2.2.2.2 = a.2.2.2.2.2
theorem toStore_c (k : Nat) (a : ((List ByteArray × List S140) × S69 × List S154 × (S69 × (List ByteArray × List S140 × Int × List Int × List Int × List Int) × Int) × Bool × Bool)) (z : ((List ByteArray × List S135) × S53 × List S118 × (S53 × (List ByteArray × List S135 × Int × List Int × List Int × List Int) × Int) × Bool × Bool)) {cs : List Value} (w : World) (h : kStoreL.K w a cs) (hf : ToStore k a z) :
  Calls Try.prog 33 #[.agg cs.toArray] w fun e w' => ∃ ds : List Value, e = .returned (.agg ds.toArray) ∧ kStore.M w' w.heap.size (Fr w w') z ds ∧ Below w.heap.size w w' := by
 have hwp := h
 obtain ⟨cp0, _, rfl, hp0, cp1, _, rfl, hp1, cp2, _, rfl, hp2, cp3, _, rfl, hp3, cp4, cp5, rfl, hp4, hp5⟩ := h
 have gp2 := hp2; obtain ⟨A_, k_, rfl, -, -⟩ := hp2; obtain ⟨vp2, hv⟩ : ∃ v, v = Value.slice A_ (a.2.2.1).length k_ := ⟨_, rfl⟩; rw [← hv] at gp2 hwp ⊢; clear hv
 obtain rfl : cp4 = [.bool a.2.2.2.2.1] := hp4
 obtain rfl : cp5 = [.bool a.2.2.2.2.2] := hp5
 obtain ⟨ep, he⟩ : ∃ cs, cs = cp0 ++ (cp1 ++ ([vp2] ++ (cp3 ++ ([.bool a.2.2.2.2.1] ++ ([.bool a.2.2.2.2.2]))))) := ⟨_, rfl⟩; rw [← he] at hwp ⊢; have Ep := Aside0.mk he; have Wp := Aside0.mk hwp; have Np := Aside0.mk (show ep.length = 20 from Kd.K_len _ hwp); clear he hwp
 have Kp0 := Aside0.mk hp0; have Lp0 := Aside0.mk (show cp0.length = 2 from Kd.K_len _ hp0); clear hp0
 have Kp1 := Aside0.mk hp1; have Lp1 := Aside0.mk (show cp1.length = 4 from Kd.K_len _ hp1); clear hp1
 have Kp2 := Aside0.mk gp2; clear gp2
 have Kp3 := Aside0.mk hp3; have Lp3 := Aside0.mk (show cp3.length = 11 from Kd.K_len _ hp3); clear hp3
 obtain ⟨fF0, fF1, fF2, fF3, fF4, fF5⟩ := hf
 have F0 := Aside0.mk fF0; clear fF0
 have F1 := Aside0.mk fF1; clear fF1
 have F2 := Aside0.mk fF2; clear fF2
 have F3 := Aside0.mk fF3; clear fF3
 have F4 := Aside0.mk fF4; clear fF4
 have F5 := Aside0.mk fF5; clear fF5
 have O := Aside0.mk (Nat.le_refl w.heap.size)
 have E := Aside0.mk (Env.start w)
 go_enter Try.func33, Try.ntmps33
 go_wp2_with (first | ((with_reducible refine gate_dst (N := 5) rfl ?_); replace O := Aside0.mk (And.intro E.out.le O.out); replace E := Aside0.mk (E.out.alloc ep 74 (g := w.heap.size) rfl); replace E := Aside0.mk (E.out.alloc Z58 58 (g := (w.heap.size + 1)) (by simp)); replace E := Aside0.mk (E.out.alloc Z58 58 (g := (w.heap.size + 1 + 1)) (by simp)); refine ev_loadpart rfl 25 _ rfl w.heap.size 0 [] cp0 (cp1 ++ ([vp2] ++ (cp3 ++ ([.bool a.2.2.2.2.1] ++ [.bool a.2.2.2.2.2])))) _ rfl (E.out.box 2 rfl) (by rw [Ep.out]; first | done | rfl | (simp only [aA, aN, aL]; first | done | rfl)) (rfl) Try.underlying25 rfl (by rw [Lp0.out]; kernel_rfl) ?_))
 ((with_reducible refine (toDisk_c k a.1 z.1 _ (E.out.K Kp0.out) F0.out).mono ?_); rintro e w1_ ⟨d2_, rfl, Md2_, hb⟩)
 have q := E.out.made4 O.out 2 rfl Md2_ hb; clear O E Md2_ hb; obtain ⟨n3_, m4_, Ld2_, Od2_, O, E⟩ := q
 go_wp2_with (first | ((with_reducible refine gate_store (t := 32) (p := 7) rfl ?_); refine ev_storepart rfl 32 _ _ rfl rfl (w.heap.size + 1 + 1) 0 d2_ [] [.slice none 0 0, .slice none 0 0] [.int .i64 0, .int .i64 0, .int .i64 0, .slice none 0 0, .slice none 0 0, .int .i64 0, .int .i64 0, .int .i64 0, .slice none 0 0, .slice none 0 0, .slice none 0 0, .int .i64 0, .slice none 0 0, .slice none 0 0, .slice none 0 0, .int .i64 0, .bool false, .bool false] rfl rfl (E.out.box 1 rfl) (by first | rfl | (simp only [aA, aN, aL]; first | done | rfl)) (rfl) (by rw [Ld2_.out]; rfl) (by rw [Ld2_.out]; kernel_rfl) Od2_.out ?_; intro W5_ hp hn; replace E := E.out.put2 1 hp hn (by have o := O.out; dsimp only [Off, OffA, Fct.box, Fct.made, List.set]; and_intros <;> first | trivial | omega); clear hp hn) | ((with_reducible refine gate_dst (N := 9) rfl ?_); refine ev_loadpart rfl 69 _ rfl w.heap.size 2 cp0 cp1 ([vp2] ++ (cp3 ++ ([.bool a.2.2.2.2.1] ++ [.bool a.2.2.2.2.2]))) _ rfl (E.out.box 3 rfl) (by rw [Ep.out]; first | done | rfl | (simp only [aA, aN, aL]; first | done | rfl)) (Lp0.out) Try.underlying69 rfl (by rw [Lp1.out]; kernel_rfl) ?_))
 ((with_reducible refine (toMeta_o k a.2.1 z.2.1 _ (E.out.K Kp1.out) F1.out).mono ?_); rintro e w6_ ⟨d7_, rfl, Md7_, hb⟩)
 have q := E.out.made4 O.out 4 rfl Md7_ hb; clear O E Md7_ hb; obtain ⟨n8_, m9_, Ld7_, Od7_, O, E⟩ := q
 go_wp2_with (first | ((with_reducible refine gate_store (t := 53) (p := 11) rfl ?_); refine ev_storepart rfl 53 _ _ rfl rfl (w.heap.size + 1 + 1) 2 d7_ d2_ [.int .i64 0, .int .i64 0, .int .i64 0, .slice none 0 0] [.slice none 0 0, .int .i64 0, .int .i64 0, .int .i64 0, .slice none 0 0, .slice none 0 0, .slice none 0 0, .int .i64 0, .slice none 0 0, .slice none 0 0, .slice none 0 0, .int .i64 0, .bool false, .bool false] rfl rfl (E.out.box 2 rfl) (by first | rfl | (simp only [aA, aN, aL]; first | done | rfl)) (Ld2_.out) (by rw [Ld7_.out]; rfl) (by rw [Ld7_.out]; kernel_rfl) Od7_.out ?_; intro W10_ hp hn; replace E := E.out.put2 2 hp hn (by have o := O.out; dsimp only [Off, OffA, Fct.box, Fct.made, List.set]; and_intros <;> first | trivial | omega); clear hp hn) | ((with_reducible refine gate_dst (N := 13) rfl ?_); refine ev_loadcell rfl 70 _ rfl w.heap.size 6 (cp0 ++ cp1) (vp2) (cp3 ++ ([.bool a.2.2.2.2.1] ++ [.bool a.2.2.2.2.2])) rfl (E.out.box 4 rfl) (by rw [Ep.out]; first | done | rfl | (simp only [aA, aN, aL]; first | done | rfl)) (by simp only [List.length_append, List.length_cons, List.length_nil, Lp0.out, Lp1.out]) Try.underlying70 rfl ?_))
 ((with_reducible refine (toReaders_c k a.2.2.1 z.2.2.1 _ (E.out.K Kp2.out) F2.out).mono ?_); rintro e w11_ ⟨d12_, rfl, Md12_, hb⟩)
 have q := E.out.made4 O.out 1 rfl Md12_ hb; clear O E Md12_ hb; obtain ⟨n13_, m14_, Ld12_, Od12_, O, E⟩ := q
 obtain ⟨B15_, e16_, hv, -⟩ := E.out.mk_ 0 rfl; injection hv with hv; subst hv
 go_wp2_with (first | ((with_reducible refine gate_store (t := 54) (p := 15) rfl ?_); refine ev_storecell rfl 54 _ _ rfl rfl (w.heap.size + 1 + 1) 6 (.slice B15_ z.2.2.1.length e16_) (.slice none 0 0) (d2_ ++ d7_) [.int .i64 0, .int .i64 0, .int .i64 0, .slice none 0 0, .slice none 0 0, .slice none 0 0, .int .i64 0, .slice none 0 0, .slice none 0 0, .slice none 0 0, .int .i64 0, .bool false, .bool false] rfl rfl (E.out.box 3 rfl) (by first | rfl | (simp only [aA, aN, aL]; first | done | rfl)) (by simp only [List.length_append, List.length_cons, List.length_nil, Ld2_.out, Ld7_.out]) (by kernel_rfl) rfl rfl ?_; intro W17_ hp hn; replace E := E.out.put2 3 hp hn (by have o := O.out; dsimp only [Off, OffA, Fct.box, Fct.made, List.set]; and_intros <;> first | trivial | omega); clear hp hn) | ((with_reducible refine gate_dst (N := 17) rfl ?_); refine ev_loadpart rfl 72 _ rfl w.heap.size 7 (cp0 ++ (cp1 ++ [vp2])) cp3 ([.bool a.2.2.2.2.1] ++ [.bool a.2.2.2.2.2]) _ rfl (E.out.box 5 rfl) (by rw [Ep.out]; first | done | rfl | (simp only [aA, aN, aL]; first | done | rfl)) (by simp only [List.length_append, List.length_cons, List.length_nil, Lp0.out, Lp1.out]) Try.underlying72 rfl (by rw [Lp3.out]; kernel_rfl) ?_))
 ((with_reducible refine (toTxn_c k a.2.2.2.1 z.2.2.2.1 _ (E.out.K Kp3.out) F3.out).mono ?_); rintro e w18_ ⟨d19_, rfl, Md19_, hb⟩)
 have q := E.out.made4 O.out 11 rfl Md19_ hb; clear O E Md19_ hb; obtain ⟨n20_, m21_, Ld19_, Od19_, O, E⟩ := q
 obtain ⟨c25_, Ec25_, Lc25_, Oc25_⟩ := lump_ (d2_ ++ (d7_ ++ ([.slice B15_ z.2.2.1.length e16_] ++ (d19_ ++ ([.bool a.2.2.2.2.1] ++ [.bool a.2.2.2.2.2]))))) 20 (by simp only [List.length_append, List.length_cons, List.length_nil, Ld19_.out, Ld2_.out, Ld7_.out]) (ones_app Od2_.out (ones_app Od7_.out (ones_app (ones1 rfl) (ones_app Od19_.out (ones_app (ones1 rfl) (ones1 rfl))))))
 go_wp2_with (first | ((with_reducible refine gate_store (t := 56) (p := 19) rfl ?_); refine ev_storepart rfl 56 _ _ rfl rfl (w.heap.size + 1 + 1) 7 d19_ (d2_ ++ (d7_ ++ [.slice B15_ z.2.2.1.length e16_])) [.int .i64 0, .int .i64 0, .int .i64 0, .slice none 0 0, .slice none 0 0, .slice none 0 0, .int .i64 0, .slice none 0 0, .slice none 0 0, .slice none 0 0, .int .i64 0] [.bool false, .bool false] rfl rfl (E.out.box 4 rfl) (by first | rfl | (simp only [aA, aN, aL]; first | done | rfl)) (by simp only [List.length_append, List.length_cons, List.length_nil, Ld2_.out, Ld7_.out]) (by rw [Ld19_.out]; rfl) (by rw [Ld19_.out]; kernel_rfl) Od19_.out ?_; intro W22_ hp hn; replace E := E.out.put2 4 hp hn (by have o := O.out; dsimp only [Off, OffA, Fct.box, Fct.made, List.set]; and_intros <;> first | trivial | omega); clear hp hn) | ((with_reducible refine gate_dst (N := 21) rfl ?_); refine ev_loadcell rfl 4 _ rfl w.heap.size 18 (cp0 ++ (cp1 ++ ([vp2] ++ cp3))) (.bool a.2.2.2.2.1) [.bool a.2.2.2.2.2] rfl (E.out.box 6 rfl) (by rw [Ep.out]; first | done | rfl | (simp only [aA, aN, aL]; first | done | rfl)) (by simp only [List.length_append, List.length_cons, List.length_nil, Lp0.out, Lp1.out, Lp3.out]) Try.underlying4 rfl ?_) | ((with_reducible refine gate_store (t := 4) (p := 22) rfl ?_); refine ev_storecell rfl 4 _ _ rfl rfl (w.heap.size + 1 + 1) 18 (.bool a.2.2.2.2.1) (.bool false) (d2_ ++ (d7_ ++ ([.slice B15_ z.2.2.1.length e16_] ++ d19_))) [.bool false] rfl rfl (E.out.box 4 rfl) (by first | rfl | (simp only [aA, aN, aL]; first | done | rfl)) (by simp only [List.length_append, List.length_cons, List.length_nil, Ld19_.out, Ld2_.out, Ld7_.out]) (by kernel_rfl) rfl rfl ?_; intro W23_ hp hn; replace E := E.out.put2 4 hp hn (by have o := O.out; dsimp only [Off, OffA, Fct.box, Fct.made, List.set]; and_intros <;> first | trivial | omega); clear hp hn) | ((with_reducible refine gate_dst (N := 24) rfl ?_); refine ev_loadcell rfl 4 _ rfl w.heap.size 19 (cp0 ++ (cp1 ++ ([vp2] ++ (cp3 ++ [.bool a.2.2.2.2.1])))) (.bool a.2.2.2.2.2) [] rfl (E.out.box 6 rfl) (by rw [Ep.out]; first | done | rfl | (simp only [aA, aN, aL]; first | done | rfl)) (by simp only [List.length_append, List.length_cons, List.length_nil, Lp0.out, Lp1.out, Lp3.out]) Try.underlying4 rfl ?_) | ((with_reducible refine gate_store (t := 4) (p := 25) rfl ?_); refine ev_storecell rfl 4 _ _ rfl rfl (w.heap.size + 1 + 1) 19 (.bool a.2.2.2.2.2) (.bool false) (d2_ ++ (d7_ ++ ([.slice B15_ z.2.2.1.length e16_] ++ (d19_ ++ [.bool a.2.2.2.2.1])))) [] rfl rfl (E.out.box 4 rfl) (by first | rfl | (simp only [aA, aN, aL]; first | done | rfl)) (by simp only [List.length_append, List.length_cons, List.length_nil, Ld19_.out, Ld2_.out, Ld7_.out]) (by kernel_rfl) rfl rfl ?_; intro W24_ hp hn; replace E := E.out.put2 4 hp hn (by have o := O.out; dsimp only [Off, OffA, Fct.box, Fct.made, List.set]; and_intros <;> first | trivial | omega); clear hp hn) | ((with_reducible refine gate_dst (N := 26) rfl ?_); refine ev_loadpart rfl 58 _ rfl (w.heap.size + 1 + 1) 0 [] c25_ [] _ rfl (E.out.box 4 rfl) (by simp only [aA, aN, aL]; rw [Ec25_.out]; first | done | rfl | (simp only [aA, aN, aL]; first | done | rfl)) (rfl) Try.underlying58 rfl (by rw [Lc25_.out]; kernel_rfl) ?_) | ((with_reducible refine gate_store (t := 58) (p := 2) rfl ?_); refine ev_storepart rfl 58 _ _ rfl rfl (w.heap.size + 1) 0 c25_ [] Z58 [] rfl rfl (E.out.box 5 rfl) (by first | rfl | (simp only [aA, aN, aL]; first | done | rfl)) (rfl) (by rw [Lc25_.out]; rfl) (by rw [Lc25_.out]; kernel_rfl) Oc25_.out ?_; intro W26_ hp hn; replace E := E.out.put2 5 hp hn (by have o := O.out; dsimp only [Off, OffA, Fct.box, Fct.made, List.set]; and_intros <;> first | trivial | omega); clear hp hn))
 have BX := Aside0.mk (show _ = some (Obj.cells (c25_ : List Value).toArray 58 (0, 0)) from by first | exact (E.out.box 5 rfl) | simpa only [aA, aN, aL] using (E.out.box 5 rfl))
 refine bodyPost_ret (oresults_c rfl _ _ (w.heap.size + 1) 58 _ _ _ rfl BX.out Try.underlying58 rfl (by rw [List.size_toArray, show (c25_ : List Value).length = 20 from Lc25_.out]; kernel_rfl)) rfl ?_
 have e_ : ((z.1, z.2.1, z.2.2.1, z.2.2.2.1, a.2.2.2.2.1, a.2.2.2.2.2) : ((List ByteArray × List S135) × S53 × List S118 × (S53 × (List ByteArray × List S135 × Int × List Int × List Int × List Int) × Int) × Bool × Bool)) = z := by (try simp only [← F4.out, ← F5.out]) <;> rfl
 rw [← e_]
 exact ⟨_, rfl, (by rw [Ec25_.out]; exact fresh (d := kStore) (comb (E.out.made 3 rfl) (comb (E.out.made 2 rfl) (comb (E.out.made 1 rfl) (comb (E.out.made 0 rfl) (comb Mbool Mbool (fun k h1 h2 => by have o := O.out; (try simp only [Iv, true_and, or_false, false_or] at h1 h2) <;> omega)) (fun k h1 h2 => by have o := O.out; (try simp only [Iv, true_and, or_false, false_or] at h1 h2) <;> omega)) (fun k h1 h2 => by have o := O.out; (try simp only [Iv, true_and, or_false, false_or] at h1 h2) <;> omega)) (fun k h1 h2 => by have o := O.out; (try simp only [Iv, true_and, or_false, false_or] at h1 h2) <;> omega)) (fun k h1 h2 => by have o := O.out; (try simp only [Iv, true_and, or_false, false_or] at h1 h2) <;> omega)) (Nat.le_refl _)), E.out.below⟩
def cloneTxn_w_T1 : Bool × List (List Nat × List Nat) := (true, [([], []), ([0], [0]), ([1], [1]), ([], []), ([3], [3]), ([4, 2], [4]), ([], []), ([6], [6]), ([2, 5, 7], [2, 5, 7]), ([8, 5, 0, 1, 2, 3, 4, 5, 6, 7, 8], [8])])
def cloneTxn_w_B1 : List Nat := [0, 1, 3, 0, 8, 31, 0, 64, 255, 511]
theorem cloneTxn_w_ok1_0 : regT (opsOf Try.f135 1) cloneTxn_w_T1 cloneTxn_w_B1 [] (.p 0 (.t 1 (.p 3 (.t 4 (.p 6 (.t 7 (.e 2 (.e 5 (.p 8 (.e 9 .d)))))))))) = true := by kernel_rfl
theorem cloneTxn_w (k : Nat) (x : S53) (l0 : List ByteArray) (l1 : List S135) (l2 : Int) (l3 l4 l5 : List Int) (n : Int) {cs : List Value} (w : World) (h : kTxn.K w (x, (l0, l1, l2, l3, l4, l5), n) cs) (f1 : impl_cloneMeta.f k x.f0 x.f1 x.f2 x.f3 = some (x.f0, x.f1, x.f2, x.f3)) (f2 : ((l0.length ≤ 2000000 ∧ l1.length ≤ 2000000) ∧ l3.length ≤ 2000000 ∧ l4.length ≤ 2000000 ∧ l5.length ≤ 2000000)) :
  Calls Try.prog 135 #[.agg cs.toArray] w fun e w' => ∃ ds : List Value, e = .returned (.agg ds.toArray) ∧ kTxn.M w' w.heap.size (Fr w w') (x, (l0, l1, l2, l3, l4, l5), n) ds ∧ Below w.heap.size w w' := by
 obtain ⟨cM, _, rfl, hM, cW, cI, rfl, hW, hI⟩ := h
 obtain rfl : cI = [.int .i64 n] := hI
 obtain ⟨cs, hcs⟩ : ∃ cs, cs = cM ++ (cW ++ [.int .i64 n]) := ⟨_, rfl⟩
 rw [← hcs]
 have Ecs := Aside0.mk hcs
 have KM := Aside0.mk hM
 have KW := Aside0.mk hW
 have LM := Aside0.mk (show cM.length = 4 from k53.K_len hM)
 have LW := Aside0.mk (show cW.length = 6 from kWork.K_len hW)
 have Lcs := Aside0.mk (show cs.length = 11 from by rw [hcs]; simp only [List.length_append, LM.out, LW.out, List.length_cons, List.length_nil])
 have F1 := Aside0.mk f1
 have F2 := Aside0.mk f2
 clear hM hW f1 f2 hcs
 have O := Aside0.mk (Nat.le_refl w.heap.size)
 have E := Aside0.mk (Env.start w)
 go_enter Try.func135, Try.ntmps135
 go_upto_region 1 with (fail)
 replace O := Aside0.mk (And.intro E.out.le O.out)
 replace E := Aside0.mk (E.out.alloc cs 56 (g := w.heap.size) rfl)
 replace E := Aside0.mk (E.out.alloc Z56 56 (g := (w.heap.size + 1)) (by simp))
 replace E := Aside0.mk E.out.drew
 refine tre_start cloneTxn_w_ok1_0 (S := fun w' => w'.heap[w.heap.size]? = some (.cells (cs : List Value).toArray 56 (0, 0)) ∧ True) (by kernel_rfl) (fun _ _ _ _ h => h) ⟨(E.out.box 1 rfl), trivial⟩ (fun hHeld => ?_)
 generalize hq : World.drew _ = w1_ at hHeld ⊢; replace E := E.out.to hq; clear hq
 (refine tre_p (v := ?_) (a' := ?_) rfl rfl (Or.inl ⟨by rfl, ?_⟩) ?_ ?_; rotate_left; (· intro w'; go_simp; with_reducible rfl); rotate_left; (· show Act.put _ (some _) _ = _; simp only [Act.put, s_A, s_0, s_1, i64_w]; try rfl))
 refine tre_loadpart (a' := ?ax2_) rfl rfl (by rfl) 53 _ rfl w.heap.size 0 [] cM (cW ++ [.int .i64 n]) _ rfl (fun w' hs => hs.1) (by rw [Ecs.out]; first | done | rfl | (simp only [aA, aN, aL]; first | done | rfl)) (rfl) Try.underlying53 rfl (by rw [LM.out]; kernel_rfl) ?px2_ ?kx2_
 case px2_ => (show Act.put _ (some _) _ = _; simp only [Act.put, s_A, s_0, s_1, i64_w]; try rfl)
 (refine tre_p (v := ?_) (a' := ?_) rfl rfl (Or.inl ⟨by rfl, ?_⟩) ?_ ?_; rotate_left; (· intro w'; go_simp; with_reducible rfl); rotate_left; (· show Act.put _ (some _) _ = _; simp only [Act.put, s_A, s_0, s_1, i64_w]; try rfl))
 refine tre_loadpart (a' := ?ax3_) rfl rfl (by rfl) 34 _ rfl w.heap.size 4 cM cW [.int .i64 n] _ rfl (fun w' hs => hs.1) (by rw [Ecs.out]; first | done | rfl | (simp only [aA, aN, aL]; first | done | rfl)) (LM.out) Try.underlying34 rfl (by rw [LW.out]; kernel_rfl) ?px3_ ?kx3_
 case px3_ => (show Act.put _ (some _) _ = _; simp only [Act.put, s_A, s_0, s_1, i64_w]; try rfl)
 (refine tre_p (v := ?_) (a' := ?_) rfl rfl (Or.inl ⟨by rfl, ?_⟩) ?_ ?_; rotate_left; (· intro w'; go_simp; with_reducible rfl); rotate_left; (· show Act.put _ (some _) _ = _; simp only [Act.put, s_A, s_0, s_1, i64_w]; try rfl))
 refine tre_loadcell (a' := ?ax4_) rfl rfl (by rfl) 3 _ rfl w.heap.size 10 (cM ++ cW) (.int .i64 n) [] _ rfl (fun w' hs => hs.1) (by rw [Ecs.out]; first | done | rfl | (simp only [aA, aN, aL]; first | done | rfl)) (by simp only [List.length_append, List.length_cons, List.length_nil, LM.out, LW.out]) Try.underlying3 rfl ?px4_ ?kx4_
 case px4_ => (show Act.put _ (some _) _ = _; simp only [Act.put, s_A, s_0, s_1, i64_w]; try rfl)
 refine tre_e rfl (ev1_call rfl Try.func90 (by kernel_rfl) rfl #[.agg cM.toArray] (by rfl) rfl (by (try simp only [List.map_toArray, List.map_cons, List.map_nil]); first | done | rfl) ?_)
 with_reducible refine (cloneMeta_o k x x _ (E.out.K KM.out) F1.out).mono ?_
 rintro e w5_ ⟨d6_, rfl, Md6_, hb⟩
 have q := E.out.made4 O.out 4 rfl Md6_ hb; clear O E Md6_ hb; obtain ⟨n7_, m8_, Ld6_, Od6_, O, E⟩ := q
 refine ⟨_, rfl, ⟨(E.out.box 2 rfl), trivial⟩, (fun hHeld => ?_)⟩
 refine tre_norm (a' := ?_) ?_ ?_; rotate_left; (· show Act.put _ (some 5) _ = _; simp only [Act.put, s_A, s_0, s_1, i64_w]; try rfl)
 refine tre_e rfl (ev1_call rfl Try.func49 (by kernel_rfl) rfl #[.agg cW.toArray] (by rfl) rfl (by (try simp only [List.map_toArray, List.map_cons, List.map_nil]); first | done | rfl) ?_)
 with_reducible refine (cloneWork_c (l0, l1, l2, l3, l4, l5) _ (E.out.K KW.out) F2.out).mono ?_
 rintro e w9_ ⟨d10_, rfl, Md10_, hb⟩
 have q := E.out.made4 O.out 6 rfl Md10_ hb; clear O E Md10_ hb; obtain ⟨n11_, m12_, Ld10_, Od10_, O, E⟩ := q
 refine ⟨_, rfl, ⟨(E.out.box 3 rfl), trivial⟩, (fun hHeld => ?_)⟩
 refine tre_norm (a' := ?_) ?_ ?_; rotate_left; (· show Act.put _ (some 8) _ = _; simp only [Act.put, s_A, s_0, s_1, i64_w]; try rfl)
 obtain ⟨c13_, Ec13_, Lc13_, Oc13_⟩ := lump_ (d6_ ++ (d10_ ++ [.int .i64 n])) 11 (by simp only [List.length_append, List.length_cons, List.length_nil, Ld10_.out, Ld6_.out]) (ones_app Od6_.out (ones_app Od10_.out (ones1 rfl)))
 refine tre_p (v := .agg c13_.toArray) (a' := ?_) rfl rfl (Or.inl ⟨by rfl, run_build 56 _ rfl Z56 (fun w => by kernel_rfl) _ Try.underlying56 #[(0, 4), (4, 6), (10, 1)] (fun w => by kernel_rfl) [(0, .agg d6_.toArray), (1, .agg d10_.toArray), (2, .int .i64 n)] (by first | rfl | (simp only [List.map_toArray, List.map_cons, List.map_nil]; rfl)) c13_ (by rw [Ec13_.out]; refine fill_seg (new := d6_) (pre := []) (mid := [.int .i64 0, .int .i64 0, .int .i64 0, .slice none 0 0]) (post := [.slice none 0 0, .slice none 0 0, .int .i64 0, .slice none 0 0, .slice none 0 0, .slice none 0 0, .int .i64 0]) rfl (by first | rfl | (simp only [aA, aN, aL]; first | done | rfl)) (by show some (0, 4) = some (_, _); rw [show (d6_ : List Value).length = 4 from Ld6_.out]; first | done | rfl) (by rw [Ld6_.out]; rfl) ?_; refine fill_seg (new := d10_) (pre := d6_) (mid := [.slice none 0 0, .slice none 0 0, .int .i64 0, .slice none 0 0, .slice none 0 0, .slice none 0 0]) (post := [.int .i64 0]) rfl (by first | rfl | (simp only [aA, aN, aL]; first | done | rfl)) (by show some (4, 6) = some (_, _); rw [show (d6_ : List Value).length = 4 from Ld6_.out, show (d10_ : List Value).length = 6 from Ld10_.out]; first | done | rfl) (by rw [Ld10_.out]; rfl) ?_; refine fill_seg (new := [.int .i64 n]) (pre := (d6_ ++ d10_)) (mid := [.int .i64 0]) (post := []) rfl (by first | rfl | (simp only [aA, aN, aL]; first | done | rfl)) (by show some (10, 1) = some (_, _); rw [show ((d6_ ++ d10_) : List Value).length = 10 from by simp only [List.length_append, List.length_cons, List.length_nil, Ld10_.out, Ld6_.out]]; first | done | rfl) (rfl) ?_; first | rfl | simp only [Instr.fill, aA, aN, aL])⟩) ?_ ?_; rotate_left; (· show Act.put _ (some _) _ = _; simp only [Act.put, s_A, s_0, s_1, i64_w]; try rfl)
 refine tre_e rfl (ev1_storepart rfl (by rfl) 56 _ _ rfl (w.heap.size + 1) 0 c13_ [] Z56 [] rfl rfl (E.out.box 2 rfl) (by first | rfl | (simp only [aA, aN, aL]; first | done | rfl)) (rfl) (by rw [Lc13_.out]; rfl) (by rw [Lc13_.out]; kernel_rfl) Oc13_.out (fun W14_ hp hn => ?_))
 replace E := E.out.put2 2 hp hn (by have o := O.out; dsimp only [Off, OffA, Fct.box, Fct.made, List.set]; and_intros <;> first | trivial | omega); clear hp hn
 refine ⟨⟨(E.out.box 3 rfl), trivial⟩, (fun hHeld => ?_)⟩
 refine tre_done ?_
 clear hHeld
 go_wp2_with fail
 have BX := Aside0.mk (show _ = some (Obj.cells (c13_ : List Value).toArray 56 (0, 0)) from by first | exact (E.out.box 2 rfl) | simpa only [aA, aN, aL] using (E.out.box 2 rfl))
 refine bodyPost_ret (oresults_c rfl _ _ (w.heap.size + 1) 56 _ _ _ rfl BX.out Try.underlying56 rfl (by rw [List.size_toArray, show (c13_ : List Value).length = 11 from Lc13_.out]; kernel_rfl)) rfl ?_
 exact ⟨_, rfl, (by rw [Ec13_.out]; exact fresh (d := kTxn) (comb (E.out.made 1 rfl) (comb (E.out.made 0 rfl) Mint (fun k h1 h2 => by have o := O.out; (try simp only [Iv, true_and, or_false, false_or] at h1 h2) <;> omega)) (fun k h1 h2 => by have o := O.out; (try simp only [Iv, true_and, or_false, false_or] at h1 h2) <;> omega)) (Nat.le_refl _)), E.out.below⟩
def cloneStore.T5 : Bool × List (List Nat × List Nat) := (true, [([], []), ([], []), ([1], [1]), ([], []), ([3], [3]), ([4], [4]), ([2, 5], [2, 5]), ([6], [6]), ([0, 7, 5], [0, 7]), ([8, 8, 0, 1, 2, 3, 4, 5, 6, 7, 8], [0, 8])])
def cloneStore.B5 : List Nat := [0, 0, 2, 0, 8, 24, 62, 126, 255, 511]
theorem cloneStore.ok5_1 : regB (opsOf Try.f82 5) cloneStore.T5 cloneStore.B5 [] [.p 0, .p 1, .t 2, .p 3, .t 4, .e 5, .p 6, .e 7, .e 8, .p 9] = true := by kernel_rfl
def cloneStore.T7 : Bool × List (List Nat × List Nat) := (true, [([], []), ([0], [0]), ([1], [1]), ([], []), ([3], [3]), ([4, 2], [4]), ([], []), ([], []), ([7], [7]), ([8, 5], [8]), ([0, 1, 2, 3, 4, 7, 8], []), ([10, 2, 9, 0, 1, 2, 3, 4, 7, 8], [2, 10]), ([0, 1, 2, 3, 4, 5, 7, 8, 10, 11], []), ([12, 5, 11, 0, 1, 2, 3, 4, 5, 7, 8, 10, 11], [5, 12]), ([0, 1, 2, 3, 4, 5, 6, 7, 8, 10, 11, 12, 13], []), ([14, 6, 13, 0, 1, 2, 3, 4, 5, 6, 7, 8, 10, 11, 12, 13], [6, 14]), ([0, 1, 2, 3, 4, 5, 6, 7, 8, 9, 10, 11, 12, 13, 14, 15], []), ([16, 9, 15, 0, 1, 2, 3, 4, 5, 6, 7, 8, 9, 10, 11, 12, 13, 14, 15], [9, 16])])
def cloneStore.B7 : List Nat := [0, 1, 3, 0, 8, 31, 0, 0, 128, 447, 415, 1983, 4031, 8127, 16383, 32767, 65535, 131071]
theorem cloneStore.ok7_2 : regB (opsOf Try.f82 7) cloneStore.T7 cloneStore.B7 [11, 13, 15, 17] [.p 0, .t 1, .p 3, .t 4, .p 6, .p 7, .t 8, .e 2, .p 10, .e 5, .e 9, .l 11, .p 12, .l 13, .p 14, .l 15, .p 16, .l 17] = true := by kernel_rfl
theorem cloneStore_o (k : Nat) (a0 : List ByteArray) (a1 : List S135) (x : S53) (rs : List S118) (y : S53) (l0 : List ByteArray) (l1 : List S135) (l2 : Int) (l3 l4 l5 : List Int) (n : Int) (bw bf : Bool) {cs : List Value} (w : World) (h : kStore.K w ((a0, a1), x, rs, (y, (l0, l1, l2, l3, l4, l5), n), bw, bf) cs) (f1 : impl_cloneDisk.f a0 a1 = some (a0, a1)) (f2 : impl_cloneMeta.f k x.f0 x.f1 x.f2 x.f3 = some (x.f0, x.f1, x.f2, x.f3)) (f3 : ∀ r ∈ rs, impl_cloneMeta.f k r.f1.f0 r.f1.f1 r.f1.f2 r.f1.f3 = some (r.f1.f0, r.f1.f1, r.f1.f2, r.f1.f3)) (f4 : impl_cloneMeta.f k y.f0 y.f1 y.f2 y.f3 = some (y.f0, y.f1, y.f2, y.f3)) (f5 : ((l0.length ≤ 2000000 ∧ l1.length ≤ 2000000) ∧ l3.length ≤ 2000000 ∧ l4.length ≤ 2000000 ∧ l5.length ≤ 2000000)) (hl : rs.length ≤ 2000000) :
  Calls Try.prog 82 #[.agg cs.toArray] w fun e w' => ∃ ds : List Value, e = .returned (.agg ds.toArray) ∧ kStore.M w' w.heap.size (Fr w w') ((a0, a1), x, rs, (y, (l0, l1, l2, l3, l4, l5), n), bw, bf) ds ∧ Below w.heap.size w w' := by
 obtain ⟨cD, _, rfl, hD, cM, _, rfl, hM, cR, _, rfl, hR, cT, _, rfl, hT, cB, cF, rfl, hW, hF⟩ := h
 obtain rfl : cB = [.bool bw] := hW
 obtain rfl : cF = [.bool bf] := hF
 obtain ⟨AR, ccR, rfl, mR, rR⟩ := hR
 obtain ⟨vR, hvR⟩ : ∃ v, v = Value.slice AR rs.length ccR := ⟨_, rfl⟩
 obtain ⟨cs, hcs⟩ : ∃ cs, cs = cD ++ (cM ++ ([vR] ++ (cT ++ ([.bool bw] ++ [.bool bf])))) := ⟨_, rfl⟩
 rw [← hvR, ← hcs]
 have E := Aside0.mk hcs
 have KD := Aside0.mk hD
 have KM := Aside0.mk hM
 have KR := Aside0.mk rR
 have KT := Aside0.mk hT
 have VR := Aside0.mk hvR
 have ND := Aside0.mk (show cD.length = 2 from kDisk.K_len hD)
 have NM := Aside0.mk (show cM.length = 4 from k53.K_len hM)
 have NT := Aside0.mk (show cT.length = 11 from kTxn.K_len hT)
 have F1 := Aside0.mk f1
 have F2 := Aside0.mk f2
 have F3 := Aside0.mk f3
 have F4 := Aside0.mk f4
 have F5 := Aside0.mk f5
 have FL := Aside0.mk hl
 clear hD hM hT f1 f2 f3 f4 f5 hl hcs hvR mR rR
 have BA := Aside0.mk (blk_alloc (blk_new w (.cells cs.toArray 58)) (.cells [.slice none 0 0, .slice none 0 0, .int .i64 0, .int .i64 0, .int .i64 0, .slice none 0 0, .slice none 0 0, .int .i64 0, .int .i64 0, .int .i64 0, .slice none 0 0, .slice none 0 0, .slice none 0 0, .int .i64 0, .slice none 0 0, .slice none 0 0, .slice none 0 0, .int .i64 0, .bool false, .bool false].toArray 58))
 have BR := Aside0.mk (show ((w.alloc (.cells cs.toArray 58)).alloc (.cells [.slice none 0 0, .slice none 0 0, .int .i64 0, .int .i64 0, .int .i64 0, .slice none 0 0, .slice none 0 0, .int .i64 0, .int .i64 0, .int .i64 0, .slice none 0 0, .slice none 0 0, .slice none 0 0, .int .i64 0, .slice none 0 0, .slice none 0 0, .slice none 0 0, .int .i64 0, .bool false, .bool false].toArray 58)).heap[w.heap.size + 1]? = some (.cells ([.slice none 0 0, .slice none 0 0, .int .i64 0, .int .i64 0, .int .i64 0, .slice none 0 0, .slice none 0 0, .int .i64 0, .int .i64 0, .int .i64 0, .slice none 0 0, .slice none 0 0, .slice none 0 0, .int .i64 0, .slice none 0 0, .slice none 0 0, .slice none 0 0, .int .i64 0, .bool false, .bool false] : List Value).toArray 58 (0, 0)) from (by have := blk_new (w.alloc (.cells cs.toArray 58)) (.cells ([.slice none 0 0, .slice none 0 0, .int .i64 0, .int .i64 0, .int .i64 0, .slice none 0 0, .slice none 0 0, .int .i64 0, .int .i64 0, .int .i64 0, .slice none 0 0, .slice none 0 0, .slice none 0 0, .int .i64 0, .slice none 0 0, .slice none 0 0, .slice none 0 0, .int .i64 0, .bool false, .bool false] : List Value).toArray 58); rwa [show (w.alloc (.cells cs.toArray 58)).heap.size = w.heap.size + 1 from by simp] at this))
 have HB := Aside0.mk (below_alloc (below_alloc (Below.refl w.heap.size w) (.cells cs.toArray 58)) (.cells [.slice none 0 0, .slice none 0 0, .int .i64 0, .int .i64 0, .int .i64 0, .slice none 0 0, .slice none 0 0, .int .i64 0, .int .i64 0, .int .i64 0, .slice none 0 0, .slice none 0 0, .slice none 0 0, .int .i64 0, .slice none 0 0, .slice none 0 0, .slice none 0 0, .int .i64 0, .bool false, .bool false].toArray 58))
 have HZ := Aside0.mk (show w.heap.size + 1 < ((w.alloc (.cells cs.toArray 58)).alloc (.cells [.slice none 0 0, .slice none 0 0, .int .i64 0, .int .i64 0, .int .i64 0, .slice none 0 0, .slice none 0 0, .int .i64 0, .int .i64 0, .int .i64 0, .slice none 0 0, .slice none 0 0, .slice none 0 0, .int .i64 0, .slice none 0 0, .slice none 0 0, .slice none 0 0, .int .i64 0, .bool false, .bool false].toArray 58)).heap.size from blk_lt BR.out)
 go_enter Try.func82, Try.ntmps82
 go_wp2_with ((with_reducible refine gate_dst (N := 7) rfl ?_); refine ev_loadcell rfl 54 _ rfl w.heap.size 6 (cD ++ cM) vR (cT ++ ([.bool bw] ++ [.bool bf])) rfl BA.out (by rw [E.out]; simp only [List.append_assoc, List.nil_append, List.append_nil]) (by simp only [List.length_append, List.length_cons, List.length_nil, ND.out, NM.out]) Try.underlying54 rfl ?_; rw [VR.out])
 go_loopg [3, 9] (rs.length + 1) (fun kq v3 v9 w' => ∃ (i : Nat) (v : Value), v3 = v ∧ v9 = .int .i64 (i : Int) ∧ Aside0 (kq + i = rs.length + 1) ∧ Aside0 (i ≤ rs.length) ∧ Aside0 (Kd.S k118 118 w' w.heap.size (fun k => w.heap.size + 1 < k) v (rs.take i)) ∧ Aside0 (w'.heap[w.heap.size]? = some (.cells cs.toArray 58 (0, 0))) ∧ Aside0 (w'.heap[w.heap.size + 1]? = some (.cells ([.slice none 0 0, .slice none 0 0, .int .i64 0, .int .i64 0, .int .i64 0, .slice none 0 0, .slice none 0 0, .int .i64 0, .int .i64 0, .int .i64 0, .slice none 0 0, .slice none 0 0, .slice none 0 0, .int .i64 0, .slice none 0 0, .slice none 0 0, .slice none 0 0, .int .i64 0, .bool false, .bool false] : List Value).toArray 58 (0, 0))) ∧ Aside0 (Below w.heap.size w w') ∧ Aside0 (w.heap.size + 1 < w'.heap.size))
 case atStart => exact ⟨0, .slice none 0 0, rfl, rfl, ⟨by omega⟩, ⟨Nat.zero_le _⟩, ⟨Kd.S_nil _ _ _ _ _⟩, BA, BR, HB, HZ⟩
 case round =>
  clear BA BR HB HZ
  obtain ⟨i, v, rfl, rfl, HQ, HI, HO, BA, BR, HB, HZ⟩ := hrel
  obtain ⟨xs, hxs⟩ : ∃ xs, xs = rs.take i := ⟨_, rfl⟩
  rw [← hxs] at HO
  have HX := Aside0.mk hxs
  clear hxs
  obtain ⟨Av, cv, rfl⟩ := Kd.S_slice HO.out
  by_cases hlt : i < rs.length
  ·have c1 : decide ((i : Int) < (rs.length : Int)) = true := decide_eq_true (by omega)
   have c0 : decide ((0 : Int) ≤ (i : Int)) = true := decide_eq_true (by omega)
   cases gk with
   | zero => exact absurd HQ.out (by omega)
   | succ k1 =>
    obtain ⟨ad, A4, c4, hA, z0, z1, z2, z3, z4, hl4, hC4⟩ := at_T118 KR.out (i : Int) (by omega) (by omega)
    subst hA
    obtain ⟨el, hel⟩ : ∃ el, el = rd_T118 rs (i : Int) := ⟨_, rfl⟩
    have hel2 : el = rs[i] := by rw [hel]; simp [rd_T118, List.getD_eq_getElem?_getD, List.getElem?_eq_getElem hlt]
    rw [← hel] at z0 z1 z2 z3 z4 hl4 hC4
    replace z0 := (HB.out.cell (World.block_lt_of_cell? w _ z0)).trans z0
    replace z1 := (HB.out.cell (World.block_lt_of_cell? w _ z1)).trans z1
    replace z2 := (HB.out.cell (World.block_lt_of_cell? w _ z2)).trans z2
    replace z3 := (HB.out.cell (World.block_lt_of_cell? w _ z3)).trans z3
    replace z4 := (HB.out.cell (World.block_lt_of_cell? w _ z4)).trans z4
    simp only [Int.toNat_natCast] at z0 z1 z2 z3 z4
    have HE := Aside0.mk hel2
    have FE := Aside0.mk (show impl_cloneMeta.f k el.f1.f0 el.f1.f1 el.f1.f2 el.f1.f3 = some (el.f1.f0, el.f1.f1, el.f1.f2, el.f1.f3) from F3.out el (by rw [hel2]; exact List.getElem_mem hlt))
    have KE := Aside0.mk (show k53.K w el.f1 [.int .i64 el.f1.f0, .int .i64 el.f1.f1, .int .i64 el.f1.f2, .slice A4 el.f1.f3.length c4] from k53_mk w el.f1 hl4 hC4)
    clear hel hel2 hl4 hC4
    have OKV := Aside0.mk (show ∀ k, (Value.slice Av xs.length cv).ownBlock = some k → w.heap.size + 1 < k from HO.out.choose_spec.1)
    go_upto_region 5 with ((with_reducible refine gate_store (t := 118) (p := 5) rfl ?_); refine ev_storepart rfl 118 _ _ rfl rfl wr.heap.size 0 [.int .i64 el.f0, .int .i64 el.f1.f0, .int .i64 el.f1.f1, .int .i64 el.f1.f2, .slice A4 el.f1.f3.length c4] [] [.int .i64 0, .int .i64 0, .int .i64 0, .int .i64 0, .slice none 0 0] [] rfl rfl (blk_new wr (.cells [.int .i64 0, .int .i64 0, .int .i64 0, .int .i64 0, .slice none 0 0].toArray 118)) rfl rfl rfl (by kernel_rfl) (fun v hv => by simp only [List.mem_cons, List.not_mem_nil, or_false] at hv; rcases hv with rfl | rfl | rfl | rfl | rfl <;> rfl) ?_; intro W5 hp hn; have B5 := Aside0.mk hn; have P5 := Aside0.mk hp; clear hp hn)
    have hb5 := P5.out.below wr (Nat.le_refl _) (below_alloc (Below.refl _ _) _)
    have L5 := Aside0.mk (Kd.S_lt HO.out)
    have LL := Aside0.mk (show wr.heap.size < W5.heap.size from blk_lt B5.out)
    have HO5 := Aside0.mk (Kd.S_below HO.out hb5)
    have BA5 := Aside0.mk (blk_below BA.out hb5)
    have BR5 := Aside0.mk (blk_below BR.out hb5)
    have HB5 := Aside0.mk (below_step HB.out hb5)
    have HZ5 := Aside0.mk (show w.heap.size + 1 < W5.heap.size by have := HZ.out; have := LL.out; omega)
    clear HO BA BR HB P5 hb5 z0 z1 z2 z3 z4
    have BA := Aside0.mk (blk_below BA5.out (Below.refl W5.heap.size W5).drew)
    have BR := Aside0.mk (blk_below BR5.out (Below.refl W5.heap.size W5).drew)
    have HB := Aside0.mk (below_step HB5.out (Below.refl W5.heap.size W5).drew)
    have HO := Aside0.mk (Kd.S_below HO5.out (Below.refl W5.heap.size W5).drew)
    have B := Aside0.mk (blk_below B5.out (Below.refl W5.heap.size W5).drew)
    have HZ6 := Aside0.mk (Nat.lt_of_lt_of_le HZ5.out (Below.refl W5.heap.size W5).drew.size)
    have LM := Aside0.mk (Nat.lt_of_lt_of_le LL.out (Below.refl W5.heap.size W5).drew.size)
    clear BA5 BR5 HB5 HO5 B5 HZ5 LL
    refine seq_start cloneStore.ok5_1 (S := fun w' => w'.heap[wr.heap.size]? = some (.cells ([] ++ ([.int .i64 el.f0, .int .i64 el.f1.f0, .int .i64 el.f1.f1, .int .i64 el.f1.f2, .slice A4 el.f1.f3.length c4] ++ []) : List Value).toArray 118 (0, 0)) ∧ True) (by kernel_rfl) (fun _ _ _ _ h => h) ⟨B.out, trivial⟩ (fun hHeld => ?_)
    generalize W5.drew = wd at BA BR HB HO B HZ6 LM hHeld ⊢
    iterate 2 (refine seq_p (v := ?_) (a' := ?_) rfl rfl (Or.inl ⟨by rfl, ?_⟩) ?_ ?_; rotate_left; (· intro w'; go_simp; with_reducible rfl); rotate_left; (· show Act.put _ (some _) _ = _; simp only [Act.put, List.setIfInBounds_toArray, List.set_cons_zero, List.set_cons_succ, i64_w, i32_w]; try rfl))
    refine seq_loadcell (a' := ?a1_4) rfl rfl (by rfl) 3 _ rfl wr.heap.size 0 [] (.int .i64 el.f0) [.int .i64 el.f1.f0, .int .i64 el.f1.f1, .int .i64 el.f1.f2, .slice A4 el.f1.f3.length c4] _ rfl (fun w' hs => hs.1) (rfl) (rfl) Try.underlying3 rfl ?hp4 ?hk4
    case hp4 => (show Act.put _ (some _) _ = _; simp only [Act.put, List.setIfInBounds_toArray, List.set_cons_zero, List.set_cons_succ, i64_w, i32_w]; try rfl)
    (refine seq_p (v := ?_) (a' := ?_) rfl rfl (Or.inl ⟨by rfl, ?_⟩) ?_ ?_; rotate_left; (· intro w'; go_simp; with_reducible rfl); rotate_left; (· show Act.put _ (some _) _ = _; simp only [Act.put, List.setIfInBounds_toArray, List.set_cons_zero, List.set_cons_succ, i64_w, i32_w]; try rfl))
    refine seq_loadpart (a' := ?a1_5) rfl rfl (by rfl) 53 _ rfl wr.heap.size 1 [.int .i64 el.f0] [.int .i64 el.f1.f0, .int .i64 el.f1.f1, .int .i64 el.f1.f2, .slice A4 el.f1.f3.length c4] [] _ rfl (fun w' hs => hs.1) (rfl) (rfl) Try.underlying53 rfl (by kernel_rfl) ?hp5 ?hk5
    case hp5 => (show Act.put _ (some _) _ = _; simp only [Act.put, List.setIfInBounds_toArray, List.set_cons_zero, List.set_cons_succ, i64_w, i32_w]; try rfl)
    refine seq_call rfl rfl Try.func90 (by kernel_rfl) rfl #[.agg #[.int .i64 el.f1.f0, .int .i64 el.f1.f1, .int .i64 el.f1.f2, .slice A4 el.f1.f3.length c4]] (by rfl) rfl (by (try simp only [List.map_toArray, List.map_cons, List.map_nil]); first | done | rfl) ?_
    with_reducible refine (cloneMeta_o k el.f1 el.f1 _ (k53.K_below HB.out KE.out) FE.out).mono ?_
    rintro e wc ⟨dM, rfl, M, hb⟩
    have HF := Aside0.mk (Kd.S_mono (Kd.S_below (Kd.S_bound HO.out) hb) (ok' := fun k => w.heap.size + 1 < k ∧ ¬ (wd.heap.size ≤ k)) (fun k hk => ⟨hk.1, by have := hk.2.2.1; omega⟩))
    have hsz := Aside0.mk hb.size
    replace BA := Aside0.mk (blk_below BA.out hb)
    replace BR := Aside0.mk (blk_below BR.out hb)
    replace HB := Aside0.mk (below_step HB.out hb)
    replace B := Aside0.mk (blk_below B.out hb)
    obtain ⟨A3, c3, rfl, -⟩ := k53_open (k53.K_of_M M)
    obtain ⟨v3, hv3, hS3⟩ := k53_openM M
    have hv4 : v3 = .slice A3 el.f1.f3.length c3 := by injection hv3 with _ h; injection h with _ h; injection h with _ h; injection h with h _; exact h.symm
    subst hv4
    have ME := Aside0.mk (Kd.S_lower (base' := w.heap.size) (Kd.S_mono hS3 (ok' := fun k => wd.heap.size ≤ k) (fun k hk => hk.1)) (by have := HZ6.out; omega))
    clear M hb hv3 hS3 HO
    refine ⟨_, rfl, ⟨B.out, trivial⟩, (fun hHeld => ?_)⟩
    refine seq_norm (a' := ?_) ?_ ?_; rotate_left; (· show Act.put _ (some 18) _ = _; simp only [Act.put, List.setIfInBounds_toArray, List.set_cons_zero, List.set_cons_succ, i64_w, i32_w]; try rfl)
    (refine seq_p (v := ?_) (a' := ?_) rfl rfl (Or.inl ⟨by rfl, ?_⟩) ?_ ?_; rotate_left; (· intro w'; go_simp; with_reducible rfl); rotate_left; (· show Act.put _ (some _) _ = _; simp only [Act.put, List.setIfInBounds_toArray, List.set_cons_zero, List.set_cons_succ, i64_w, i32_w]; try rfl))
    refine seq_e rfl rfl (fun K hK => ?_)
    refine value_ (w1 := ?_) (v := ?_) (by rfl) rfl ?_ ?_
    rotate_left 2
    ·go_simp
     constructor
     ·rfl
     ·rfl
    refine hK.out _ _ ⟨(blk_alloc B.out _), trivial⟩ (fun hHeld => ?_)
    clear hK K
    refine seq_norm (a' := ?_) ?_ ?_; rotate_left; (· show Act.put _ (some 20) _ = _; simp only [Act.put, List.setIfInBounds_toArray, List.set_cons_zero, List.set_cons_succ, i64_w, i32_w]; try rfl)
    refine seq_e rfl rfl (fun K hK => ?_)
    refine Kd.S_append_step k118 (w0 := w) (W := wc) w.heap.size (by rfl) (.tmp 13) (.tmp 20) 54 118 (.agg #[.int .i64 0, .int .i64 0, .int .i64 0, .int .i64 0, .slice none 0 0]) 56 rfl Try.underlying54 info118 rfl (by decide) (by omega) (.slice Av xs.length cv) xs el [.int .i64 el.f0, .int .i64 el.f1.f0, .int .i64 el.f1.f1, .int .i64 el.f1.f2, .slice A3 el.f1.f3.length c3] (fun k => w.heap.size + 1 < k) (fun k => wd.heap.size ≤ k) rfl rfl ?aM ?aP ?aF HF.out HB.out ?aS ?aL ?_
    (case aM => exact k118_mkM _ _ _ el ME.out)
    (case aP => exact (fun k h => ⟨by have := HZ6.out; omega, fun e => by have := L5.out k e.symm; have := LM.out; omega⟩))
    (case aF => exact (fun k h => by have := HZ6.out; have := hsz.out; omega))
    (case aS => exact HB.out.size)
    (case aL => have := FL.out; have h2 := List.length_take_le i rs; rw [← HX.out] at h2; omega)
    intro va wa ho hb hg hat
    have B_ := Aside0.mk (blk_grown B.out hg (fun e => Nat.lt_irrefl _ (L5.out _ e.symm)))
    have BA_ := Aside0.mk (blk_grown BA.out hg (fun e => by have := L5.out _ e.symm; have h2 := OKV.out _ e.symm; omega))
    have BR_ := Aside0.mk (blk_grown BR.out hg (fun e => by have h2 := OKV.out _ e.symm; omega))
    have HO := Aside0.mk ho
    have HB_ := Aside0.mk hb
    clear BA BR HB B ho hb hg hat
    refine hK.out _ _ ⟨B_.out, trivial⟩ (fun hHeld => ?_)
    clear hK K
    refine seq_norm (a' := ?_) ?_ ?_; rotate_left; (· show Act.put _ (some 21) _ = _; simp only [Act.put, List.setIfInBounds_toArray, List.set_cons_zero, List.set_cons_succ, i64_w, i32_w]; try rfl)
    (refine seq_p (v := ?_) (a' := ?_) rfl rfl (Or.inl ⟨by rfl, ?_⟩) ?_ ?_; rotate_left; (· intro w'; go_simp; with_reducible rfl); rotate_left; (· show Act.put _ (some _) _ = _; simp only [Act.put, List.setIfInBounds_toArray, List.set_cons_zero, List.set_cons_succ, i64_w, i32_w]; try rfl))
    refine seq_done ?_
    clear hHeld
    have hsz2 := HB_.out.size
    go_wp2
    go_roundg k1
    case measure => omega
    case rel => exact ⟨i + 1, _, rfl, by rw [show wrap64 ((i : Int) + 1) = ((i + 1 : Nat) : Int) by unfold wrap64; have := FL.out; omega], ⟨by have := HQ.out; omega⟩, ⟨by omega⟩, ⟨by rw [List.take_succ_eq_append_getElem hlt, ← HE.out, ← HX.out]; exact HO.out⟩, BA_, BR_, HB_, ⟨by have := blk_lt BR_.out; omega⟩⟩
  ·have c1 : decide ((i : Int) < (rs.length : Int)) = false := decide_eq_false (by omega)
   have hi : i = rs.length := by have := HI.out; omega
   subst hi
   have hx := HX.out.symm
   rw [List.take_length] at hx
   subst hx
   have VV := Aside0.mk VR.out
   go_upto_region 7 with (fail)
   replace BA := Aside0.mk (blk_below BA.out (Below.refl wr.heap.size wr).drew)
   replace BR := Aside0.mk (blk_below BR.out (Below.refl wr.heap.size wr).drew)
   replace HB := Aside0.mk (below_step HB.out (Below.refl wr.heap.size wr).drew)
   replace HO := Aside0.mk (Kd.S_below HO.out (Below.refl wr.heap.size wr).drew)
   replace HZ := Aside0.mk (Nat.lt_of_lt_of_le HZ.out (Below.refl wr.heap.size wr).drew.size)
   refine seq_start cloneStore.ok7_2 (S := fun w' => w'.heap[w.heap.size]? = some (.cells cs.toArray 58 (0, 0)) ∧ True) (by kernel_rfl) (fun _ _ _ _ h => h) ⟨BA.out, trivial⟩ (fun hHeld => ?_)
   generalize wr.drew = wd at BA BR HB HO HZ hHeld ⊢
   have MR := Aside0.mk (Kd.S_mono (Kd.S_bound HO.out) (ok' := fun k => w.heap.size + 1 < k ∧ k < wd.heap.size) (fun k hk => ⟨hk.1, hk.2.2.1⟩))
   clear HO
   (refine seq_p (v := ?_) (a' := ?_) rfl rfl (Or.inl ⟨by rfl, ?_⟩) ?_ ?_; rotate_left; (· intro w'; go_simp; with_reducible rfl); rotate_left; (· show Act.put _ (some _) _ = _; simp only [Act.put, List.setIfInBounds_toArray, List.set_cons_zero, List.set_cons_succ, i64_w, i32_w]; try rfl))
   refine seq_loadpart (a' := ?a1_6) rfl rfl (by rfl) 32 _ rfl w.heap.size 0 [] cD (cM ++ ([vR] ++ (cT ++ ([.bool bw] ++ [.bool bf])))) _ rfl (fun w' hs => hs.1) (E.out) (rfl) Try.underlying32 rfl (by rw [ND.out]; kernel_rfl) ?hp6 ?hk6
   case hp6 => (show Act.put _ (some _) _ = _; simp only [Act.put, List.setIfInBounds_toArray, List.set_cons_zero, List.set_cons_succ, i64_w, i32_w]; try rfl)
   (refine seq_p (v := ?_) (a' := ?_) rfl rfl (Or.inl ⟨by rfl, ?_⟩) ?_ ?_; rotate_left; (· intro w'; go_simp; with_reducible rfl); rotate_left; (· show Act.put _ (some _) _ = _; simp only [Act.put, List.setIfInBounds_toArray, List.set_cons_zero, List.set_cons_succ, i64_w, i32_w]; try rfl))
   refine seq_loadpart (a' := ?a1_7) rfl rfl (by rfl) 53 _ rfl w.heap.size 2 cD cM ([vR] ++ (cT ++ ([.bool bw] ++ [.bool bf]))) _ rfl (fun w' hs => hs.1) (E.out) (ND.out) Try.underlying53 rfl (by rw [NM.out]; kernel_rfl) ?hp7 ?hk7
   case hp7 => (show Act.put _ (some _) _ = _; simp only [Act.put, List.setIfInBounds_toArray, List.set_cons_zero, List.set_cons_succ, i64_w, i32_w]; try rfl)
   iterate 2 (refine seq_p (v := ?_) (a' := ?_) rfl rfl (Or.inl ⟨by rfl, ?_⟩) ?_ ?_; rotate_left; (· intro w'; go_simp; with_reducible rfl); rotate_left; (· show Act.put _ (some _) _ = _; simp only [Act.put, List.setIfInBounds_toArray, List.set_cons_zero, List.set_cons_succ, i64_w, i32_w]; try rfl))
   refine seq_loadpart (a' := ?a1_8) rfl rfl (by rfl) 56 _ rfl w.heap.size 7 (cD ++ (cM ++ [vR])) cT ([.bool bw] ++ [.bool bf]) _ rfl (fun w' hs => hs.1) (by rw [E.out]; simp only [List.append_assoc, List.nil_append, List.append_nil]) (by simp only [List.length_append, List.length_cons, List.length_nil, ND.out, NM.out]) Try.underlying56 rfl (by rw [NT.out]; kernel_rfl) ?hp8 ?hk8
   case hp8 => (show Act.put _ (some _) _ = _; simp only [Act.put, List.setIfInBounds_toArray, List.set_cons_zero, List.set_cons_succ, i64_w, i32_w]; try rfl)
   refine seq_call rfl rfl Try.func69 (by kernel_rfl) rfl #[.agg cD.toArray] (by rfl) rfl (by (try simp only [List.map_toArray, List.map_cons, List.map_nil]); first | done | rfl) ?_
   with_reducible refine (cloneDisk_o a0 a1 a0 a1 _ (kDisk.K_below HB.out KD.out) F1.out).mono ?_
   rintro e w1 ⟨dD, rfl, M, hb⟩
   have S_D := HZ.out
   replace BA := Aside0.mk (blk_below BA.out hb)
   replace BR := Aside0.mk (blk_below BR.out hb)
   replace HB := Aside0.mk (below_step HB.out hb)
   replace HZ := Aside0.mk (Nat.lt_of_lt_of_le HZ.out hb.size)
   replace MR := Aside0.mk (Kd.S_below MR.out hb)
   have H_D := hb.size
   have LD := Aside0.mk (show dD.length = 2 from Kd.K_len _ (Kd.K_of_M _ M))
   have OD := Aside0.mk (one_of_K (Kd.K_of_M _ M))
   have MD := Aside0.mk M
   clear M hb
   refine ⟨_, rfl, ⟨BA.out, trivial⟩, (fun hHeld => ?_)⟩
   refine seq_norm (a' := ?_) ?_ ?_; rotate_left; (· show Act.put _ (some 25) _ = _; simp only [Act.put, List.setIfInBounds_toArray, List.set_cons_zero, List.set_cons_succ, i64_w, i32_w]; try rfl)
   (refine seq_p (v := ?_) (a' := ?_) rfl rfl (Or.inl ⟨by rfl, ?_⟩) ?_ ?_; rotate_left; (· intro w'; go_simp; with_reducible rfl); rotate_left; (· show Act.put _ (some _) _ = _; simp only [Act.put, List.setIfInBounds_toArray, List.set_cons_zero, List.set_cons_succ, i64_w, i32_w]; try rfl))
   refine seq_call rfl rfl Try.func90 (by kernel_rfl) rfl #[.agg cM.toArray] (by rfl) rfl (by (try simp only [List.map_toArray, List.map_cons, List.map_nil]); first | done | rfl) ?_
   with_reducible refine (cloneMeta_o k x x _ (k53.K_below HB.out KM.out) F2.out).mono ?_
   rintro e w2 ⟨dM, rfl, M, hb⟩
   have S_M := HZ.out
   replace BA := Aside0.mk (blk_below BA.out hb)
   replace BR := Aside0.mk (blk_below BR.out hb)
   replace HB := Aside0.mk (below_step HB.out hb)
   replace HZ := Aside0.mk (Nat.lt_of_lt_of_le HZ.out hb.size)
   replace MR := Aside0.mk (Kd.S_below MR.out hb)
   have H_M := hb.size
   replace MD := Aside0.mk (Kd.M_below MD.out hb)
   have LM := Aside0.mk (show dM.length = 4 from Kd.K_len _ (Kd.K_of_M _ M))
   have OM := Aside0.mk (one_of_K (Kd.K_of_M _ M))
   have MM := Aside0.mk M
   clear M hb
   refine ⟨_, rfl, ⟨BA.out, trivial⟩, (fun hHeld => ?_)⟩
   refine seq_norm (a' := ?_) ?_ ?_; rotate_left; (· show Act.put _ (some 28) _ = _; simp only [Act.put, List.setIfInBounds_toArray, List.set_cons_zero, List.set_cons_succ, i64_w, i32_w]; try rfl)
   refine seq_call rfl rfl Try.func135 (by kernel_rfl) rfl #[.agg cT.toArray] (by rfl) rfl (by (try simp only [List.map_toArray, List.map_cons, List.map_nil]); first | done | rfl) ?_
   with_reducible refine (cloneTxn_w k y l0 l1 l2 l3 l4 l5 n _ (kTxn.K_below HB.out KT.out) F4.out F5.out).mono ?_
   rintro e w3 ⟨dT, rfl, M, hb⟩
   have S_T := HZ.out
   replace BA := Aside0.mk (blk_below BA.out hb)
   replace BR := Aside0.mk (blk_below BR.out hb)
   replace HB := Aside0.mk (below_step HB.out hb)
   replace HZ := Aside0.mk (Nat.lt_of_lt_of_le HZ.out hb.size)
   replace MR := Aside0.mk (Kd.S_below MR.out hb)
   have H_T := hb.size
   replace MD := Aside0.mk (Kd.M_below MD.out hb)
   replace MM := Aside0.mk (Kd.M_below MM.out hb)
   have LT := Aside0.mk (show dT.length = 11 from Kd.K_len _ (Kd.K_of_M _ M))
   have OT := Aside0.mk (one_of_K (Kd.K_of_M _ M))
   have MT := Aside0.mk M
   clear M hb
   refine ⟨_, rfl, ⟨BA.out, trivial⟩, (fun hHeld => ?_)⟩
   refine seq_norm (a' := ?_) ?_ ?_; rotate_left; (· show Act.put _ (some 32) _ = _; simp only [Act.put, List.setIfInBounds_toArray, List.set_cons_zero, List.set_cons_succ, i64_w, i32_w]; try rfl)
   refine seq_storepart rfl rfl (by rfl) 32 _ _ rfl w.heap.size 0 dD [] cD (cM ++ ([vR] ++ (cT ++ ([.bool bw] ++ [.bool bf])))) rfl rfl BA.out (E.out) (rfl) (by rw [LD.out, ND.out]) (by rw [LD.out]; kernel_rfl) (OD.out) (fun W hp hn => ?_)
   have BR_ := Aside0.mk (blk_else BR.out hp (by omega))
   have HB_ := Aside0.mk (hp.below w (Nat.le_refl _) HB.out)
   have MR_ := Aside0.mk (putS MR.out hp (fun k hk h => by have := hk.1; omega))
   have MD_ := Aside0.mk (putM MD.out hp (fun k hk h => by have := hk.1; omega))
   have MM_ := Aside0.mk (putM MM.out hp (fun k hk h => by have := hk.1; omega))
   have MT_ := Aside0.mk (putM MT.out hp (fun k hk h => by have := hk.1; omega))
   have BA_ := Aside0.mk hn
   have HZ_ := Aside0.mk (show w.heap.size + 1 < W.heap.size by rw [hp.size]; exact HZ.out)
   have HS_ := Aside0.mk (show w3.heap.size ≤ W.heap.size by rw [hp.size]; exact Nat.le_refl _)
   clear BA BR HB MR MD MM MT HZ hp hn
   have BA := BA_
   have BR := BR_
   have HB := HB_
   have MR := MR_
   have MD := MD_
   have MM := MM_
   have MT := MT_
   have HZ := HZ_
   clear BA_ BR_ HB_ MR_ MD_ MM_ MT_ HZ_
   have HS := HS_
   clear HS_
   (refine seq_p (v := ?_) (a' := ?_) rfl rfl (Or.inl ⟨by rfl, ?_⟩) ?_ ?_; rotate_left; (· intro w'; go_simp; with_reducible rfl); rotate_left; (· show Act.put _ (some _) _ = _; simp only [Act.put, List.setIfInBounds_toArray, List.set_cons_zero, List.set_cons_succ, i64_w, i32_w]; try rfl))
   refine seq_storepart rfl rfl (by rfl) 53 _ _ rfl w.heap.size 2 dM dD cM ([vR] ++ (cT ++ ([.bool bw] ++ [.bool bf]))) rfl rfl BA.out (rfl) (LD.out) (by rw [LM.out, NM.out]) (by rw [LM.out]; kernel_rfl) (OM.out) (fun W hp hn => ?_)
   have BR_ := Aside0.mk (blk_else BR.out hp (by omega))
   have HB_ := Aside0.mk (hp.below w (Nat.le_refl _) HB.out)
   have MR_ := Aside0.mk (putS MR.out hp (fun k hk h => by have := hk.1; omega))
   have MD_ := Aside0.mk (putM MD.out hp (fun k hk h => by have := hk.1; omega))
   have MM_ := Aside0.mk (putM MM.out hp (fun k hk h => by have := hk.1; omega))
   have MT_ := Aside0.mk (putM MT.out hp (fun k hk h => by have := hk.1; omega))
   have BA_ := Aside0.mk hn
   have HZ_ := Aside0.mk (show w.heap.size + 1 < W.heap.size by rw [hp.size]; exact HZ.out)
   have HS_ := Aside0.mk (show w3.heap.size ≤ W.heap.size by rw [hp.size]; exact HS.out)
   clear BA BR HB MR MD MM MT HZ hp hn HS
   have BA := BA_
   have BR := BR_
   have HB := HB_
   have MR := MR_
   have MD := MD_
   have MM := MM_
   have MT := MT_
   have HZ := HZ_
   clear BA_ BR_ HB_ MR_ MD_ MM_ MT_ HZ_
   have HS := HS_
   clear HS_
   (refine seq_p (v := ?_) (a' := ?_) rfl rfl (Or.inl ⟨by rfl, ?_⟩) ?_ ?_; rotate_left; (· intro w'; go_simp; with_reducible rfl); rotate_left; (· show Act.put _ (some _) _ = _; simp only [Act.put, List.setIfInBounds_toArray, List.set_cons_zero, List.set_cons_succ, i64_w, i32_w]; try rfl))
   refine seq_storecell rfl rfl (by rfl) 54 _ _ rfl w.heap.size 6 (.slice Av rs.length cv) vR (dD ++ dM) (cT ++ ([.bool bw] ++ [.bool bf])) rfl rfl BA.out (by simp only [List.append_assoc, List.nil_append, List.append_nil]) (by rw [List.length_append, LD.out, LM.out]) (by kernel_rfl) rfl rfl (fun W hp hn => ?_)
   have BR_ := Aside0.mk (blk_else BR.out hp (by omega))
   have HB_ := Aside0.mk (hp.below w (Nat.le_refl _) HB.out)
   have MR_ := Aside0.mk (putS MR.out hp (fun k hk h => by have := hk.1; omega))
   have MD_ := Aside0.mk (putM MD.out hp (fun k hk h => by have := hk.1; omega))
   have MM_ := Aside0.mk (putM MM.out hp (fun k hk h => by have := hk.1; omega))
   have MT_ := Aside0.mk (putM MT.out hp (fun k hk h => by have := hk.1; omega))
   have BA_ := Aside0.mk hn
   have HZ_ := Aside0.mk (show w.heap.size + 1 < W.heap.size by rw [hp.size]; exact HZ.out)
   have HS_ := Aside0.mk (show w3.heap.size ≤ W.heap.size by rw [hp.size]; exact HS.out)
   clear BA BR HB MR MD MM MT HZ hp hn HS
   have BA := BA_
   have BR := BR_
   have HB := HB_
   have MR := MR_
   have MD := MD_
   have MM := MM_
   have MT := MT_
   have HZ := HZ_
   clear BA_ BR_ HB_ MR_ MD_ MM_ MT_ HZ_
   have HS := HS_
   clear HS_
   (refine seq_p (v := ?_) (a' := ?_) rfl rfl (Or.inl ⟨by rfl, ?_⟩) ?_ ?_; rotate_left; (· intro w'; go_simp; with_reducible rfl); rotate_left; (· show Act.put _ (some _) _ = _; simp only [Act.put, List.setIfInBounds_toArray, List.set_cons_zero, List.set_cons_succ, i64_w, i32_w]; try rfl))
   refine seq_storepart rfl rfl (by rfl) 56 _ _ rfl w.heap.size 7 dT (dD ++ (dM ++ [.slice Av rs.length cv])) cT ([.bool bw] ++ [.bool bf]) rfl rfl BA.out (by simp only [List.append_assoc, List.nil_append, List.append_nil]) (by simp only [List.length_append, List.length_cons, List.length_nil, LD.out, LM.out]) (by rw [LT.out, NT.out]) (by rw [LT.out]; kernel_rfl) (OT.out) (fun W hp hn => ?_)
   have BR_ := Aside0.mk (blk_else BR.out hp (by omega))
   have HB_ := Aside0.mk (hp.below w (Nat.le_refl _) HB.out)
   have MR_ := Aside0.mk (putS MR.out hp (fun k hk h => by have := hk.1; omega))
   have MD_ := Aside0.mk (putM MD.out hp (fun k hk h => by have := hk.1; omega))
   have MM_ := Aside0.mk (putM MM.out hp (fun k hk h => by have := hk.1; omega))
   have MT_ := Aside0.mk (putM MT.out hp (fun k hk h => by have := hk.1; omega))
   have BA_ := Aside0.mk hn
   have HZ_ := Aside0.mk (show w.heap.size + 1 < W.heap.size by rw [hp.size]; exact HZ.out)
   have HS_ := Aside0.mk (show w3.heap.size ≤ W.heap.size by rw [hp.size]; exact HS.out)
   clear BA BR HB MR MD MM MT HZ hp hn HS
   have BA := BA_
   have BR := BR_
   have HB := HB_
   have MR := MR_
   have MD := MD_
   have MM := MM_
   have MT := MT_
   have HZ := HZ_
   clear BA_ BR_ HB_ MR_ MD_ MM_ MT_ HZ_
   have HS := HS_
   clear HS_
   refine seq_done ?_
   clear hHeld
   replace BA := Aside0.mk (show W.heap[w.heap.size]? = some (.cells ((dD ++ (dM ++ ([.slice Av rs.length cv] ++ (dT ++ ([.bool bw] ++ [.bool bf])))) : List Value)).toArray 58 (0, 0)) from (by have := BA.out; simpa only [List.append_assoc] using this))
   have LEN := Aside0.mk (show ((dD ++ (dM ++ ([.slice Av rs.length cv] ++ (dT ++ ([.bool bw] ++ [.bool bf])))) : List Value)).length = 20 from by simp only [List.length_append, List.length_cons, List.length_nil, LD.out, LM.out, LT.out])
   have ONE := Aside0.mk (show ∀ v ∈ ((dD ++ (dM ++ ([.slice Av rs.length cv] ++ (dT ++ ([.bool bw] ++ [.bool bf])))) : List Value)), v.oneCell' = true from (fun v hv => by simp only [List.mem_append, List.mem_singleton] at hv; rcases hv with h | h | h | h | h | h <;> first | exact OD.out v h | exact OM.out v h | exact OT.out v h | (subst h; rfl)))
   go_wp2_with (first | ((with_reducible refine gate_dst (N := 37) rfl ?_); refine ev_loadpart rfl 58 _ rfl w.heap.size 0 [] (dD ++ (dM ++ ([.slice Av rs.length cv] ++ (dT ++ ([.bool bw] ++ [.bool bf])))) : List Value) [] _ rfl BA.out (by simp only [List.append_assoc, List.nil_append, List.append_nil]) rfl Try.underlying58 rfl (by rw [LEN.out]; kernel_rfl) ?_) | ((with_reducible refine gate_store (t := 58) (p := 2) rfl ?_); refine ev_storepart rfl 58 _ _ rfl rfl (w.heap.size + 1) 0 (dD ++ (dM ++ ([.slice Av rs.length cv] ++ (dT ++ ([.bool bw] ++ [.bool bf])))) : List Value) [] [.slice none 0 0, .slice none 0 0, .int .i64 0, .int .i64 0, .int .i64 0, .slice none 0 0, .slice none 0 0, .int .i64 0, .int .i64 0, .int .i64 0, .slice none 0 0, .slice none 0 0, .slice none 0 0, .int .i64 0, .slice none 0 0, .slice none 0 0, .slice none 0 0, .int .i64 0, .bool false, .bool false] [] rfl rfl BR.out (by rfl) rfl (by rw [LEN.out]; rfl) (by rw [LEN.out]; kernel_rfl) ONE.out ?_; intro W2 hp hn; have BR_ := Aside0.mk hn; have HP := Aside0.mk hp; clear BR hp hn; have BR := BR_; clear BR_))
   refine bodyPost_ret (oresults_c rfl _ _ (w.heap.size + 1) 58 _ _ _ rfl BR.out Try.underlying58 rfl (by simp only [List.size_toArray, List.nil_append, List.append_nil]; rw [LEN.out]; kernel_rfl)) rfl ?_
   have hz := HZ.out
   have hs := HS.out
   have hb := HP.out.below w (by omega) HB.out
   have gD := kDisk.M_lower (base' := w.heap.size) (by omega) (putM MD.out HP.out (fun k hk h => by have := hk.1; omega))
   have gM := k53.M_lower (base' := w.heap.size) (by omega) (putM MM.out HP.out (fun k hk h => by have := hk.1; omega))
   have gT := kTxn.M_lower (base' := w.heap.size) (by omega) (putM MT.out HP.out (fun k hk h => by have := hk.1; omega))
   have gR := putS MR.out HP.out (fun k hk h => by have := hk.1; omega)
   have t4 := (show (Own.apair Kd.bool Kd.bool).M W2 w.heap.size (fun _ => False) (bw, bf) ([.bool bw] ++ [.bool bf]) from ⟨[.bool bw], [.bool bf], fun _ => false, rfl, rfl, rfl⟩)
   have t3 := Own.apair_mk (ok := fun k => w2.heap.size ≤ k) (okB := fun _ => False) gT t4 (fun k h => h.1) (fun k h => h.elim) (fun k _ h => h)
   have t2 := Own.apair_mk (ok := fun k => (w.heap.size + 1 < k ∧ k < wd.heap.size) ∨ w2.heap.size ≤ k) (okB := fun k => w2.heap.size ≤ k) (show (Own.srow 118 k118).M W2 _ _ _ [.slice Av rs.length cv] from ⟨_, rfl, gR⟩) t3 (fun k h => .inl h) (fun k h => .inr h) (fun k h1 h2 => by have := h1.2; omega)
   have t1 := Own.apair_mk (ok := fun k => (w.heap.size + 1 < k ∧ k < wd.heap.size) ∨ w1.heap.size ≤ k) (okB := fun k => (w.heap.size + 1 < k ∧ k < wd.heap.size) ∨ w2.heap.size ≤ k) gM t2 (fun k h => .inr h.1) (fun k h => h.elim .inl (fun h => .inr (by omega))) (fun k h1 h2 => by have h3 := h1.1; have h4 := h1.2; omega)
   have t0 := Own.apair_mk (ok := fun k => w.heap.size ≤ k) (okB := fun k => (w.heap.size + 1 < k ∧ k < wd.heap.size) ∨ w1.heap.size ≤ k) gD t1 (fun k h => by have := h.1; omega) (fun k h => by omega) (fun k h1 h2 => by have h3 := h1.1; have h4 := h1.2; omega)
   have e : ([] : List Value) ++ ((dD ++ (dM ++ ([.slice Av rs.length cv] ++ (dT ++ ([.bool bw] ++ [.bool bf])))) : List Value) ++ []) = dD ++ (dM ++ ([.slice Av rs.length cv] ++ (dT ++ ([.bool bw] ++ [.bool bf])))) := by simp only [List.append_nil, List.nil_append]
   refine ⟨_, rfl, ?_, hb⟩
   rw [e]
   exact kStore.M_mono (fun k hk => ⟨hk.1, hk.2.2.1⟩) (kStore.M_bound t0)
theorem kStore_parts {W : World} {base : Nat} {ok : Nat → Prop} {a0 : List ByteArray} {a1 : List S135} {x : S53} {rs : List S118} {y : S53} {l0 : List ByteArray} {l1 : List S135} {l2 : Int} {l3 l4 l5 : List Int} {n : Int} {bw bf : Bool} {ds : List Value} (h : kStore.M W base ok ((a0, a1), x, rs, (y, (l0, l1, l2, l3, l4, l5), n), bw, bf) ds) : ∃ cD cM A c cT, ds = cD ++ (cM ++ ([.slice A rs.length c] ++ (cT ++ ([.bool bw] ++ [.bool bf])))) ∧ cD.length = 2 ∧ cM.length = 4 ∧ cT.length = 11 ∧ (Own.srow 118 k118).M W base ok rs [.slice A rs.length c] := by
 obtain ⟨cD, c1, okD, okB1, rfl, hD, h, a0, b0, x0⟩ := Own.apair_open h
 obtain ⟨cM, c2, okM, okB2, rfl, hM, h, a1, b1, x1⟩ := Own.apair_open h
 obtain ⟨cR, c3, okR, okB3, rfl, hR, h, a2, b2, x2⟩ := Own.apair_open h
 obtain ⟨cT, cB, okT, okB4, rfl, hT, hBB, a3, b3, x3⟩ := Own.apair_open h
 obtain ⟨cb, cf, okE, okF, rfl, hb, hf, -, -, -⟩ := Own.apair_open hBB
 obtain rfl : cb = [.bool bw] := hb
 obtain rfl : cf = [.bool bf] := hf
 obtain ⟨v, rfl, hS⟩ := hR
 obtain ⟨A, c, rfl⟩ := Kd.S_slice hS
 exact ⟨cD, cM, A, c, cT, rfl, kDisk.K_len (kDisk.K_of_M hD), k53.K_len (k53.K_of_M hM), kTxn.K_len (kTxn.K_of_M hT), _, rfl, Kd.S_mono hS (fun k h => b0 k (b1 k (a2 k h)))⟩
end Go.Proofs.Ytonhdiemjgdcnaa.PFnExactGivePage
