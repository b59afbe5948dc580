import Derived.Test.YtonhdiemjgdcnaaRB10
set_option maxHeartbeats 64000000
set_option maxRecDepth 100000
set_option linter.unusedVariables false
set_option linter.unusedSimpArgs false
namespace Go.Proofs.Ytonhdiemjgdcnaa.PFnExactGivePage
open Go.RowKit Go.Proofs.YtonhdiemjgdcnaaW.PrintWords Go.Proofs.YtonhdiemjgdcnaaW.PrintLast Go.Proofs.YtonhdiemjgdcnaaW.PrintMore
attribute [local go_sem] max2_int min2_int max_two min_two max_three min_three max_four min_four
theorem zero_53 {W : World} {base : Nat} : k53.M W base (fun _ => False) ⟨0, 0, 0, []⟩ Z53 := k53_mkM _ _ _ (⟨0, 0, 0, []⟩ : S53) (Kd.S_nil _ _ _ _ _)
theorem zero_34 {W : World} {base : Nat} : kWork.M W base (fun _ => False) ([], [], 0, [], [], []) Z34 :=
 kWork_mkM (Kd.R_nil _ _ _ _ (fun _ => False)) (Kd.R_nil _ _ _ _ (fun _ => False)) (Kd.Q_of_R (Kd.R_nil _ _ _ _ (fun _ => False))) (Kd.Q_of_R (Kd.R_nil _ _ _ _ (fun _ => False))) (Kd.Q_of_R (Kd.R_nil _ _ _ _ (fun _ => False))) (fun _ h => h.elim) (fun _ h => h.elim) (fun _ h => h.elim) (fun _ h => h.elim) (fun _ h => h.elim) (fun _ h => h.elim) (fun _ h => h.elim) (fun _ h => h.elim) (fun _ h => h.elim) (fun _ h => h.elim) (fun _ h => h.elim) (fun _ h => h.elim) (fun _ h => h.elim) (fun _ h => h.elim) (fun _ h => h.elim)
theorem zero_56 {W : World} {base : Nat} : kTxn.M W base (fun _ => False) (⟨0, 0, 0, []⟩, ([], [], 0, [], [], []), 0) Z56 := kTxn.M_mono (fun _ h => h.elim id (fun h => h.elim id id)) (comb zero_53 (comb zero_34 Mint (fun _ h => h.elim)) (fun _ h => h.elim))
theorem kStore_parts {W : World} {base : Nat} {ok : Nat → Prop} {a0 : List ByteArray} {a1 : List S135} {x : S53} {rs : List S118} {y : S53} {l0 : List ByteArray} {l1 : List S135} {l2 : Int} {l3 l4 l5 : List Int} {n : Int} {bw bf : Bool} {ds : List Value} (h : kStore.M W base ok ((a0, a1), x, rs, (y, (l0, l1, l2, l3, l4, l5), n), bw, bf) ds) : ∃ cD cM A c cT, ds = cD ++ (cM ++ ([.slice A rs.length c] ++ (cT ++ ([.bool bw] ++ [.bool bf])))) ∧ cD.length = 2 ∧ cM.length = 4 ∧ cT.length = 11 ∧ (Own.srow 118 k118).M W base ok rs [.slice A rs.length c] := by
 obtain ⟨cD, c1, okD, okB1, rfl, hD, h, a0, b0, x0⟩ := Own.apair_open h
 obtain ⟨cM, c2, okM, okB2, rfl, hM, h, a1, b1, x1⟩ := Own.apair_open h
 obtain ⟨cR, c3, okR, okB3, rfl, hR, h, a2, b2, x2⟩ := Own.apair_open h
 obtain ⟨cT, cB, okT, okB4, rfl, hT, hBB, a3, b3, x3⟩ := Own.apair_open h
 obtain ⟨cb, cf, okE, okF, rfl, hb, hf, -, -, -⟩ := Own.apair_open hBB
 obtain rfl : cb = [.bool bw] := hb
 obtain rfl : cf = [.bool bf] := hf
 obtain ⟨v, rfl, hS⟩ := hR
 obtain ⟨A, c, rfl⟩ := Kd.S_slice hS
 exact ⟨cD, cM, A, c, cT, rfl, kDisk.K_len (kDisk.K_of_M hD), k53.K_len (k53.K_of_M hM), kTxn.K_len (kTxn.K_of_M hT), _, rfl, Kd.S_mono hS (fun k h => b0 k (b1 k (a2 k h)))⟩
theorem implSync_o (k : Nat) (l0 : List ByteArray) (l1 : List S135) (q0 : List ByteArray) (q1 : List S135) {cs : List Value} (w : World) (h : kDisk.K w (l0, l1) cs) (hf : impl_SyncDisk.f k l0 l1 = some (q0, q1)) :
  Calls Try.prog 89 #[.agg cs.toArray] w fun e w' => ∃ ds : List Value, e = .returned (.agg ds.toArray) ∧ kDisk.M w' w.heap.size (Fr w w') (q0, q1) ds ∧ Below w.heap.size w w' := by
 obtain ⟨A0, c0, A1, c1, rfl, m0, r0, m1, r1⟩ := kDisk_open h
 refine (impl_SyncDisk.calls k A0 c0 l0 A1 c1 l1 q0 q1 w r0 m0 r1 m1 hf).mono ?_
 rintro e w' ⟨v0, v1, rfl, R0, R1, hb⟩
 have T0 := Own.R_tightB rfl R0
 have T1 := Own.R_tightB rfl R1
 exact ⟨[v0, v1], rfl, kDisk_mkM T0.1 T1.1 T0.2.1 T1.2.1 (Own.types_ne T0.2.2 T1.2.2 (by decide)), hb⟩
theorem specSync_o (k : Nat) (l0 : List ByteArray) (l1 : List S135) (q0 : List ByteArray) (q1 : List S135) {cs : List Value} (w : World) (h : kDisk.K w (l0, l1) cs) (hf : spec_SyncDisk.f k l0 l1 = some (q0, q1)) :
  Calls Try.prog 86 #[.agg cs.toArray] w fun e w' => ∃ ds : List Value, e = .returned (.agg ds.toArray) ∧ kDisk.M w' w.heap.size (Fr w w') (q0, q1) ds ∧ Below w.heap.size w w' := by
 obtain ⟨A0, c0, A1, c1, rfl, m0, r0, m1, r1⟩ := kDisk_open h
 refine (spec_SyncDisk.calls k A0 c0 l0 A1 c1 l1 q0 q1 w r0 m0 r1 m1 hf).mono ?_
 rintro e w' ⟨v0, v1, rfl, R0, R1, hb⟩
 have T0 := Own.R_tightB rfl R0
 have T1 := Own.R_tightB rfl R1
 exact ⟨[v0, v1], rfl, kDisk_mkM T0.1 T1.1 T0.2.1 T1.2.1 (Own.types_ne T0.2.2 T1.2.2 (by decide)), hb⟩
def stopped_o_T2 : Bool × List (List Nat × List Nat) := (true, [([], []), ([], []), ([], []), ([0], []), ([3, 0, 0], [0, 3]), ([0, 1, 3, 4], []), ([5, 1, 4, 0, 1, 3, 4], [1, 5]), ([0, 1, 2, 3, 4, 5, 6], []), ([7, 2, 6, 0, 1, 2, 3, 4, 5, 6], [2, 7])])
def stopped_o_B2 : List Nat := [0, 0, 0, 1, 9, 27, 59, 127, 255]
theorem stopped_o_ok2_0 : regT (opsOf Try.f88 2) stopped_o_T2 stopped_o_B2 [] (.t 0 (.t 1 (.p 2 (.p 3 (.e 4 (.p 5 (.e 6 (.p 7 (.e 8 .d))))))))) = true := by kernel_rfl
theorem stopped_o (k : Nat) (a0 : List ByteArray) (a1 : List S135) (x : S53) (rs : List S118) (y : S53) (l0 : List ByteArray) (l1 : List S135) (l2 : Int) (l3 l4 l5 : List Int) (n : Int) (bw bf : Bool) {e0 : List ByteArray} {e1 : List S135} {z : S53} {cs cE cZ : List Value} {base a_ b_ a2_ b2_ : Nat} (lo : Nat) (w : World) (h : kStore.K w ((a0, a1), x, rs, (y, (l0, l1, l2, l3, l4, l5), n), bw, bf) cs) (hd : kDisk.M w base (fun k => True ∧ Iv a_ b_ k) (e0, e1) cE) (hm : k53.M w base (fun k => True ∧ Iv a2_ b2_ k) z cZ) (hb : base ≤ w.heap.size) (ho : (lo ≤ a_ ∧ lo ≤ a2_ ∧ lo ≤ w.heap.size ∧ (b_ ≤ a2_ ∨ b2_ ≤ a_)) ∧ b_ ≤ w.heap.size ∧ b2_ ≤ w.heap.size) (f1 : impl_cloneDisk.f a0 a1 = some (a0, a1)) (f2 : impl_cloneMeta.f k x.f0 x.f1 x.f2 x.f3 = some (x.f0, x.f1, x.f2, x.f3)) (f3 : ∀ r ∈ rs, impl_cloneMeta.f k r.f1.f0 r.f1.f1 r.f1.f2 r.f1.f3 = some (r.f1.f0, r.f1.f1, r.f1.f2, r.f1.f3)) (f4 : impl_cloneMeta.f k y.f0 y.f1 y.f2 y.f3 = some (y.f0, y.f1, y.f2, y.f3)) (f5 : ((l0.length ≤ 2000000 ∧ l1.length ≤ 2000000) ∧ l3.length ≤ 2000000 ∧ l4.length ≤ 2000000 ∧ l5.length ≤ 2000000)) (hl : rs.length ≤ 2000000) :
  Calls Try.prog 88 #[.agg cs.toArray, .agg cE.toArray, .agg cZ.toArray] w fun e w' => ∃ ds : List Value, e = .returned (.agg ds.toArray) ∧ kStore.M w' base (fun k => lo ≤ k ∧ k < w'.heap.size) ((e0, e1), z, rs, (⟨0, 0, 0, []⟩, ([], [], 0, [], [], []), 0), false, false) ds ∧ Below w.heap.size w w' := by
 have KS0 := h
 obtain ⟨cD, _, rfl, hD, cM, _, rfl, hM, cR, _, rfl, hR, cT, _, rfl, hT, cB, cF, rfl, hW, hF⟩ := h
 obtain rfl : cB = [.bool bw] := hW
 obtain rfl : cF = [.bool bf] := hF
 have hR2 := hR
 obtain ⟨AR, ccR, rfl, mR, rR⟩ := hR
 obtain ⟨cs, hcs⟩ : ∃ cs, cs = cD ++ (cM ++ ([.slice AR rs.length ccR] ++ (cT ++ ([.bool bw] ++ [.bool bf])))) := ⟨_, rfl⟩
 rw [← hcs] at KS0 ⊢
 have Ecs := Aside0.mk hcs
 have KS := Aside0.mk KS0
 have KD := Aside0.mk (show kDisk.K w (a0, a1) cD from hD)
 have KM := Aside0.mk (show k53.K w x cM from hM)
 have KR := Aside0.mk hR2
 have CR := Aside0.mk rR
 have KT := Aside0.mk (show kTxn.K w (y, (l0, l1, l2, l3, l4, l5), n) cT from hT)
 have LD := Aside0.mk (show cD.length = 2 from kDisk.K_len hD)
 have LM := Aside0.mk (show cM.length = 4 from k53.K_len hM)
 have LT := Aside0.mk (show cT.length = 11 from kTxn.K_len hT)
 have Lcs := Aside0.mk (show cs.length = 20 from kStore.K_len KS0)
 have F1 := Aside0.mk f1
 have F2 := Aside0.mk f2
 have F3 := Aside0.mk f3
 have F4 := Aside0.mk f4
 have F5 := Aside0.mk f5
 have FL := Aside0.mk hl
 clear KS0 hD hM hT hR2 mR rR hcs f1 f2 f3 f4 f5 hl
 have LE := Aside0.mk (show cE.length = 2 from Kd.K_len _ (Kd.K_of_M _ hd)); have OE := Aside0.mk (one_of_K (Kd.K_of_M _ hd)); have LZ := Aside0.mk (show cZ.length = 4 from Kd.K_len _ (Kd.K_of_M _ hm)); have OZ := Aside0.mk (one_of_K (Kd.K_of_M _ hm))
 have HBs := Aside0.mk hb
 have O := Aside0.mk ho
 have E := Aside0.mk (((Env.start w).add (Fct.made kDisk base a_ b_ (fun _ => True) (e0, e1) cE) ho.2.1 hd).add (Fct.made k53 base a2_ b2_ (fun _ => True) z cZ) ho.2.2 hm)
 clear hd hm ho hb
 go_enter Try.func88, Try.ntmps88
 go_wp2_with (first | ((with_reducible refine gate_dst (N := 8) rfl ?_); replace O := Aside0.mk (And.intro E.out.le O.out); replace E := Aside0.mk (E.out.alloc cs 58 (g := w.heap.size) rfl); replace E := Aside0.mk (E.out.alloc cE 32 (g := (w.heap.size + 1)) (by simp)); replace E := Aside0.mk (E.out.alloc cZ 53 (g := (w.heap.size + 1 + 1)) (by simp)); replace E := Aside0.mk (E.out.alloc Z58 58 (g := (w.heap.size + 1 + 1 + 1)) (by simp)); refine ev_loadpart rfl 58 _ rfl w.heap.size 0 [] cs [] _ rfl (E.out.box 3 rfl) (by first | rfl | (simp only [aA, aN, aL]; first | done | rfl)) (rfl) Try.underlying58 rfl (by rw [Lcs.out]; kernel_rfl) ?_))
 ((with_reducible refine (cloneStore_o k a0 a1 x rs y l0 l1 l2 l3 l4 l5 n bw bf _ (E.out.K KS.out) F1.out F2.out F3.out F4.out F5.out FL.out).mono ?_); rintro e w1_ ⟨d2_, rfl, Md2_, hb⟩)
 have Ld2_ := Aside0.mk (show d2_.length = 20 from Kd.K_len _ (Kd.K_of_M _ Md2_)); have Od2_ := Aside0.mk (one_of_K (Kd.K_of_M _ Md2_))
 obtain ⟨n3_, m4_, hT, hE⟩ := E.out.made_ Md2_ hb; replace O := Aside0.mk (And.intro hT O.out); replace E := Aside0.mk hE; clear hT hE Md2_ hb
 obtain ⟨gD, gM, AG, cG, gT, hg, lD, lM, lT, hR⟩ := kStore_parts (E.out.made 0 rfl)
 have Ed2_ := Aside0.mk hg; have LgD := Aside0.mk lD; have LgM := Aside0.mk lM; have LgT := Aside0.mk lT
 replace E := Aside0.mk (E.out.add (Fct.made (Own.srow 118 k118) w.heap.size n3_ m4_ (fun _ => True) rs [.slice AG rs.length cG]) (Nat.le_refl _) ((Own.srow 118 k118).M_mono (fun k hk => hk) hR))
 clear hg lD lM lT hR
 go_upto_region 2 with (first | ((with_reducible refine gate_store (t := 58) (p := 7) rfl ?_); replace O := Aside0.mk (And.intro E.out.le O.out); replace E := Aside0.mk (E.out.alloc Z58 58 (g := w1_.heap.size) rfl); refine ev_storepart rfl 58 _ _ rfl rfl w1_.heap.size 0 d2_ [] Z58 [] rfl rfl (E.out.box 0 rfl) (by first | rfl | (simp only [aA, aN, aL]; first | done | rfl)) (rfl) (by rw [Ld2_.out]; rfl) (by rw [Ld2_.out]; kernel_rfl) Od2_.out ?_; intro W5_ hp hn; replace E := E.out.put2 0 hp hn (by have o := O.out; dsimp only [Off, OffA, Fct.box, Fct.made, List.set]; and_intros <;> first | trivial | omega); clear hp hn))
 replace E := Aside0.mk E.out.drew
 refine tre_start stopped_o_ok2_0 (S := fun w' => w'.heap[(w.heap.size + 1)]? = some (.cells (cE : List Value).toArray 32 (0, 0)) ∧ w'.heap[(w.heap.size + 1 + 1)]? = some (.cells (cZ : List Value).toArray 53 (0, 0)) ∧ True) (by kernel_rfl) (fun _ _ _ _ h => h) ⟨(E.out.box 5 rfl), (E.out.box 4 rfl), trivial⟩ (fun hHeld => ?_)
 generalize hq : World.drew _ = w6_ at hHeld ⊢; replace E := E.out.to hq; clear hq
 refine tre_loadpart (a' := ?ax7_) rfl rfl (by rfl) 32 _ rfl (w.heap.size + 1) 0 [] cE [] _ rfl (fun w' hs => hs.1) (by first | rfl | (simp only [aA, aN, aL]; first | done | rfl)) (rfl) Try.underlying32 rfl (by rw [LE.out]; kernel_rfl) ?px7_ ?kx7_
 case px7_ => (show Act.put _ (some _) _ = _; simp only [Act.put, s_A, s_0, s_1, i64_w]; try rfl)
 refine tre_loadpart (a' := ?ax8_) rfl rfl (by rfl) 53 _ rfl (w.heap.size + 1 + 1) 0 [] cZ [] _ rfl (fun w' hs => hs.2.1) (by first | rfl | (simp only [aA, aN, aL]; first | done | rfl)) (rfl) Try.underlying53 rfl (by rw [LZ.out]; kernel_rfl) ?px8_ ?kx8_
 case px8_ => (show Act.put _ (some _) _ = _; simp only [Act.put, s_A, s_0, s_1, i64_w]; try rfl)
 iterate 2 (refine tre_p (v := ?_) (a' := ?_) rfl rfl (Or.inl ⟨by rfl, ?_⟩) ?_ ?_; rotate_left; (· intro w'; go_simp; with_reducible rfl); rotate_left; (· show Act.put _ (some _) _ = _; simp only [Act.put, s_A, s_0, s_1, i64_w]; try rfl))
 refine tre_e rfl (ev1_storepart rfl (by rfl) 32 _ _ rfl w1_.heap.size 0 cE [] gD (gM ++ ([.slice AG rs.length cG] ++ (gT ++ ([.bool bw] ++ [.bool bf])))) rfl rfl (E.out.box 0 rfl) (by simp only [aA, aN, aL]; rw [Ed2_.out]; first | done | rfl | (simp only [aA, aN, aL]; first | done | rfl)) (rfl) (by rw [LE.out, LgD.out]) (by rw [LE.out]; kernel_rfl) OE.out (fun W9_ hp hn => ?_))
 replace E := E.out.put2 0 hp hn (by have o := O.out; dsimp only [Off, OffA, Fct.box, Fct.made, List.set]; and_intros <;> first | trivial | omega); clear hp hn
 refine ⟨⟨(E.out.box 5 rfl), (E.out.box 4 rfl), trivial⟩, (fun hHeld => ?_)⟩
 (refine tre_p (v := ?_) (a' := ?_) rfl rfl (Or.inl ⟨by rfl, ?_⟩) ?_ ?_; rotate_left; (· intro w'; go_simp; with_reducible rfl); rotate_left; (· show Act.put _ (some _) _ = _; simp only [Act.put, s_A, s_0, s_1, i64_w]; try rfl))
 refine tre_e rfl (ev1_storepart rfl (by rfl) 53 _ _ rfl w1_.heap.size 2 cZ cE gM ([.slice AG rs.length cG] ++ (gT ++ ([.bool bw] ++ [.bool bf]))) rfl rfl (E.out.box 0 rfl) (by first | rfl | (simp only [aA, aN, aL]; first | done | rfl)) (LE.out) (by rw [LZ.out, LgM.out]) (by rw [LZ.out]; kernel_rfl) OZ.out (fun W10_ hp hn => ?_))
 replace E := E.out.put2 0 hp hn (by have o := O.out; dsimp only [Off, OffA, Fct.box, Fct.made, List.set]; and_intros <;> first | trivial | omega); clear hp hn
 refine ⟨⟨(E.out.box 5 rfl), (E.out.box 4 rfl), trivial⟩, (fun hHeld => ?_)⟩
 (refine tre_p (v := ?_) (a' := ?_) rfl rfl (Or.inl ⟨by rfl, ?_⟩) ?_ ?_; rotate_left; (· intro w'; go_simp; with_reducible rfl); rotate_left; (· show Act.put _ (some _) _ = _; simp only [Act.put, s_A, s_0, s_1, i64_w]; try rfl))
 refine tre_e rfl (ev1_storepart rfl (by rfl) 56 _ _ rfl w1_.heap.size 7 Z56 (cE ++ (cZ ++ [.slice AG rs.length cG])) gT ([.bool bw] ++ [.bool bf]) rfl rfl (E.out.box 0 rfl) (by first | rfl | (simp only [aA, aN, aL]; first | done | rfl)) (by simp only [List.length_append, List.length_cons, List.length_nil, LE.out, LZ.out]) (by rw [LgT.out]; rfl) (by kernel_rfl) (onesC rfl (onesC rfl (onesC rfl (onesC rfl (onesC rfl (onesC rfl (onesC rfl (onesC rfl (onesC rfl (onesC rfl (onesC rfl onesN))))))))))) (fun W11_ hp hn => ?_))
 replace E := E.out.put2 0 hp hn (by have o := O.out; dsimp only [Off, OffA, Fct.box, Fct.made, List.set]; and_intros <;> first | trivial | omega); clear hp hn
 refine ⟨⟨(E.out.box 5 rfl), (E.out.box 4 rfl), trivial⟩, (fun hHeld => ?_)⟩
 refine tre_done ?_
 clear hHeld
 obtain ⟨c14_, Ec14_, Lc14_, Oc14_⟩ := lump_ (cE ++ (cZ ++ ([.slice AG rs.length cG] ++ (Z56 ++ ([.bool false] ++ [.bool false]))))) 20 (by simp only [List.length_append, List.length_cons, List.length_nil, LE.out, LZ.out]) (ones_app OE.out (ones_app OZ.out (ones_app (ones1 rfl) (ones_app (onesC rfl (onesC rfl (onesC rfl (onesC rfl (onesC rfl (onesC rfl (onesC rfl (onesC rfl (onesC rfl (onesC rfl (onesC rfl onesN))))))))))) (ones_app (ones1 rfl) (ones1 rfl))))))
 go_wp2_with (first | ((with_reducible refine gate_store (t := 4) (p := 16) rfl ?_); refine ev_storecell rfl 4 _ _ rfl rfl w1_.heap.size 18 (.bool false) (.bool bw) (cE ++ (cZ ++ ([.slice AG rs.length cG] ++ Z56))) [.bool bf] rfl rfl (E.out.box 0 rfl) (by first | rfl | (simp only [aA, aN, aL]; first | done | rfl)) (by simp only [List.length_append, List.length_cons, List.length_nil, LE.out, LZ.out]) (by kernel_rfl) rfl rfl ?_; intro W12_ hp hn; replace E := E.out.put2 0 hp hn (by have o := O.out; dsimp only [Off, OffA, Fct.box, Fct.made, List.set]; and_intros <;> first | trivial | omega); clear hp hn) | ((with_reducible refine gate_store (t := 4) (p := 17) rfl ?_); refine ev_storecell rfl 4 _ _ rfl rfl w1_.heap.size 19 (.bool false) (.bool bf) (cE ++ (cZ ++ ([.slice AG rs.length cG] ++ (Z56 ++ [.bool false])))) [] rfl rfl (E.out.box 0 rfl) (by first | rfl | (simp only [aA, aN, aL]; first | done | rfl)) (by simp only [List.length_append, List.length_cons, List.length_nil, LE.out, LZ.out]) (by kernel_rfl) rfl rfl ?_; intro W13_ hp hn; replace E := E.out.put2 0 hp hn (by have o := O.out; dsimp only [Off, OffA, Fct.box, Fct.made, List.set]; and_intros <;> first | trivial | omega); clear hp hn) | ((with_reducible refine gate_dst (N := 18) rfl ?_); refine ev_loadpart rfl 58 _ rfl w1_.heap.size 0 [] c14_ [] _ rfl (E.out.box 0 rfl) (by simp only [aA, aN, aL]; rw [Ec14_.out]; first | done | rfl | (simp only [aA, aN, aL]; first | done | rfl)) (rfl) Try.underlying58 rfl (by rw [Lc14_.out]; kernel_rfl) ?_) | ((with_reducible refine gate_store (t := 58) (p := 6) rfl ?_); refine ev_storepart rfl 58 _ _ rfl rfl (w.heap.size + 1 + 1 + 1) 0 c14_ [] Z58 [] rfl rfl (E.out.box 3 rfl) (by first | rfl | (simp only [aA, aN, aL]; first | done | rfl)) (rfl) (by rw [Lc14_.out]; rfl) (by rw [Lc14_.out]; kernel_rfl) Oc14_.out ?_; intro W15_ hp hn; replace E := E.out.put2 3 hp hn (by have o := O.out; dsimp only [Off, OffA, Fct.box, Fct.made, List.set]; and_intros <;> first | trivial | omega); clear hp hn))
 have BX := Aside0.mk (show _ = some (Obj.cells (c14_ : List Value).toArray 58 (0, 0)) from by first | exact (E.out.box 3 rfl) | simpa only [aA, aN, aL] using (E.out.box 3 rfl))
 refine bodyPost_ret (oresults_c rfl _ _ (w.heap.size + 1 + 1 + 1) 58 _ _ _ rfl BX.out Try.underlying58 rfl (by rw [List.size_toArray, show (c14_ : List Value).length = 20 from Lc14_.out]; kernel_rfl)) rfl ?_
 exact ⟨_, rfl, (by rw [Ec14_.out]; exact hull (d := kStore) (comb (E.out.made 8 rfl) (comb (E.out.made 7 rfl) (comb ((Own.srow 118 k118).M_lower HBs.out (E.out.made 1 rfl)) (comb zero_56 (comb Mbool Mbool (fun k h1 h2 => by have o := O.out; (try simp only [Iv, true_and, or_false, false_or] at h1 h2) <;> omega)) (fun k h1 h2 => by have o := O.out; (try simp only [Iv, true_and, or_false, false_or] at h1 h2) <;> omega)) (fun k h1 h2 => by have o := O.out; (try simp only [Iv, true_and, or_false, false_or] at h1 h2) <;> omega)) (fun k h1 h2 => by have o := O.out; (try simp only [Iv, true_and, or_false, false_or] at h1 h2) <;> omega)) (fun k h1 h2 => by have o := O.out; (try simp only [Iv, true_and, or_false, false_or] at h1 h2) <;> omega)) (fun k h => by have o := O.out; (try simp only [Iv, true_and, or_false, false_or] at h) <;> omega)), E.out.below⟩
theorem l12Rest_o (a0 : List ByteArray) (a1 : List S135) (x : S53) (rs : List S118) (y : S53) (l0 : List ByteArray) (l1 : List S135) (l2 : Int) (l3 l4 l5 : List Int) (n : Int) (bw bf : Bool) {e0 : List ByteArray} {e1 : List S135} {z : S53} {cs cE cZ : List Value} {base a_ b_ a2_ b2_ : Nat} (lo : Nat) (w : World) (h : kStore.K w ((a0, a1), x, rs, (y, (l0, l1, l2, l3, l4, l5), n), bw, bf) cs) (hd : kDisk.M w base (fun k => True ∧ Iv a_ b_ k) (e0, e1) cE) (hm : k53.M w base (fun k => True ∧ Iv a2_ b2_ k) z cZ) (hb : base ≤ w.heap.size) (ho : (lo ≤ a_ ∧ lo ≤ a2_ ∧ lo ≤ w.heap.size ∧ (b_ ≤ a2_ ∨ b2_ ≤ a_)) ∧ b_ ≤ w.heap.size ∧ b2_ ≤ w.heap.size) (f1 : a0.length ≤ 2000000 ∧ a1.length ≤ 2000000) (f2 : SmallM x) (f3 : ∀ r ∈ rs, SmallM r.f1) (f4 : SmallM y) (f5 : ((l0.length ≤ 2000000 ∧ l1.length ≤ 2000000) ∧ l3.length ≤ 2000000 ∧ l4.length ≤ 2000000 ∧ l5.length ≤ 2000000)) (hl : rs.length ≤ 2000000) :
  Calls Try.prog 85 #[.agg cs.toArray, .agg cE.toArray, .agg cZ.toArray] w fun e w' => ∃ ds : List Value, e = .returned (.agg ds.toArray) ∧ kStore.M w' base (fun k => lo ≤ k ∧ k < w'.heap.size) ((e0, e1), z, rs, (⟨0, 0, 0, []⟩, ([], [], 0, [], [], []), 0), false, false) ds ∧ Below w.heap.size w w' := by
 have KS0 := h
 obtain ⟨cD, _, rfl, hD, cM, _, rfl, hM, cR, _, rfl, hR, cT, _, rfl, hT, cB, cF, rfl, hW, hF⟩ := h
 obtain rfl : cB = [.bool bw] := hW
 obtain rfl : cF = [.bool bf] := hF
 have hR2 := hR
 obtain ⟨AR, ccR, rfl, mR, rR⟩ := hR
 obtain ⟨cs, hcs⟩ : ∃ cs, cs = cD ++ (cM ++ ([.slice AR rs.length ccR] ++ (cT ++ ([.bool bw] ++ [.bool bf])))) := ⟨_, rfl⟩
 rw [← hcs] at KS0 ⊢
 have Ecs := Aside0.mk hcs
 have KS := Aside0.mk KS0
 have KD := Aside0.mk (show kDisk.K w (a0, a1) cD from hD)
 have KM := Aside0.mk (show k53.K w x cM from hM)
 have KR := Aside0.mk hR2
 have CR := Aside0.mk rR
 have KT := Aside0.mk (show kTxn.K w (y, (l0, l1, l2, l3, l4, l5), n) cT from hT)
 have LD := Aside0.mk (show cD.length = 2 from kDisk.K_len hD)
 have LM := Aside0.mk (show cM.length = 4 from k53.K_len hM)
 have LT := Aside0.mk (show cT.length = 11 from kTxn.K_len hT)
 have Lcs := Aside0.mk (show cs.length = 20 from kStore.K_len KS0)
 have F1 := Aside0.mk f1
 have F2 := Aside0.mk f2
 have F3 := Aside0.mk f3
 have F4 := Aside0.mk f4
 have F5 := Aside0.mk f5
 have FL := Aside0.mk hl
 clear KS0 hD hM hT hR2 mR rR hcs f1 f2 f3 f4 f5 hl
 have LE := Aside0.mk (show cE.length = 2 from Kd.K_len _ (Kd.K_of_M _ hd)); have OE := Aside0.mk (one_of_K (Kd.K_of_M _ hd)); have LZ := Aside0.mk (show cZ.length = 4 from Kd.K_len _ (Kd.K_of_M _ hm)); have OZ := Aside0.mk (one_of_K (Kd.K_of_M _ hm))
 have HBs := Aside0.mk hb
 have O := Aside0.mk ho
 have E := Aside0.mk (((Env.start w).add (Fct.made kDisk base a_ b_ (fun _ => True) (e0, e1) cE) ho.2.1 hd).add (Fct.made k53 base a2_ b2_ (fun _ => True) z cZ) ho.2.2 hm)
 clear hd hm ho hb
 go_enter Try.func85, Try.ntmps85
 go_wp2_with (first | ((with_reducible refine gate_dst (N := 8) rfl ?_); replace O := Aside0.mk (And.intro E.out.le O.out); replace E := Aside0.mk (E.out.alloc cs 58 (g := w.heap.size) rfl); replace E := Aside0.mk (E.out.alloc cE 32 (g := (w.heap.size + 1)) (by simp)); replace E := Aside0.mk (E.out.alloc cZ 53 (g := (w.heap.size + 1 + 1)) (by simp)); replace E := Aside0.mk (E.out.alloc Z58 58 (g := (w.heap.size + 1 + 1 + 1)) (by simp)); refine ev_loadpart rfl 58 _ rfl w.heap.size 0 [] cs [] _ rfl (E.out.box 3 rfl) (by first | rfl | (simp only [aA, aN, aL]; first | done | rfl)) (rfl) Try.underlying58 rfl (by rw [Lcs.out]; kernel_rfl) ?_))
 ((with_reducible refine (l12Copy_o a0 a1 x rs y l0 l1 l2 l3 l4 l5 n bw bf _ (E.out.K KS.out) F1.out F2.out F3.out F4.out F5.out FL.out).mono ?_); rintro e w1_ ⟨d2_, rfl, Md2_, hb⟩)
 have Ld2_ := Aside0.mk (show d2_.length = 20 from Kd.K_len _ (Kd.K_of_M _ Md2_)); have Od2_ := Aside0.mk (one_of_K (Kd.K_of_M _ Md2_))
 obtain ⟨n3_, m4_, hT, hE⟩ := E.out.made_ Md2_ hb; replace O := Aside0.mk (And.intro hT O.out); replace E := Aside0.mk hE; clear hT hE Md2_ hb
 obtain ⟨gD, gM, AG, cG, gT, hg, lD, lM, lT, hR⟩ := kStore_parts (E.out.made 0 rfl)
 have Ed2_ := Aside0.mk hg; have LgD := Aside0.mk lD; have LgM := Aside0.mk lM; have LgT := Aside0.mk lT
 replace E := Aside0.mk (E.out.add (Fct.made (Own.srow 118 k118) w.heap.size n3_ m4_ (fun _ => True) rs [.slice AG rs.length cG]) (Nat.le_refl _) ((Own.srow 118 k118).M_mono (fun k hk => hk) hR))
 clear hg lD lM lT hR
 obtain ⟨c11_, Ec11_, Lc11_, Oc11_⟩ := lump_ (cE ++ (cZ ++ ([.slice AG rs.length cG] ++ (Z56 ++ ([.bool false] ++ [.bool false]))))) 20 (by simp only [List.length_append, List.length_cons, List.length_nil, LE.out, LZ.out]) (ones_app OE.out (ones_app OZ.out (ones_app (ones1 rfl) (ones_app (onesC rfl (onesC rfl (onesC rfl (onesC rfl (onesC rfl (onesC rfl (onesC rfl (onesC rfl (onesC rfl (onesC rfl (onesC rfl onesN))))))))))) (ones_app (ones1 rfl) (ones1 rfl))))))
 go_wp2_with (first | ((with_reducible refine gate_store (t := 58) (p := 7) rfl ?_); replace O := Aside0.mk (And.intro E.out.le O.out); replace E := Aside0.mk (E.out.alloc Z58 58 (g := w1_.heap.size) rfl); refine ev_storepart rfl 58 _ _ rfl rfl w1_.heap.size 0 d2_ [] Z58 [] rfl rfl (E.out.box 0 rfl) (by first | rfl | (simp only [aA, aN, aL]; first | done | rfl)) (rfl) (by rw [Ld2_.out]; rfl) (by rw [Ld2_.out]; kernel_rfl) Od2_.out ?_; intro W5_ hp hn; replace E := E.out.put2 0 hp hn (by have o := O.out; dsimp only [Off, OffA, Fct.box, Fct.made, List.set]; and_intros <;> first | trivial | omega); clear hp hn) | ((with_reducible refine gate_dst (N := 10) rfl ?_); refine ev_loadpart rfl 32 _ rfl (w.heap.size + 1) 0 [] cE [] _ rfl (E.out.box 5 rfl) (by first | rfl | (simp only [aA, aN, aL]; first | done | rfl)) (rfl) Try.underlying32 rfl (by rw [LE.out]; kernel_rfl) ?_) | ((with_reducible refine gate_store (t := 32) (p := 11) rfl ?_); refine ev_storepart rfl 32 _ _ rfl rfl w1_.heap.size 0 cE [] gD (gM ++ ([.slice AG rs.length cG] ++ (gT ++ ([.bool bw] ++ [.bool bf])))) rfl rfl (E.out.box 0 rfl) (by simp only [aA, aN, aL]; rw [Ed2_.out]; first | done | rfl | (simp only [aA, aN, aL]; first | done | rfl)) (rfl) (by rw [LE.out, LgD.out]) (by rw [LE.out]; kernel_rfl) OE.out ?_; intro W6_ hp hn; replace E := E.out.put2 0 hp hn (by have o := O.out; dsimp only [Off, OffA, Fct.box, Fct.made, List.set]; and_intros <;> first | trivial | omega); clear hp hn) | ((with_reducible refine gate_dst (N := 12) rfl ?_); refine ev_loadpart rfl 53 _ rfl (w.heap.size + 1 + 1) 0 [] cZ [] _ rfl (E.out.box 4 rfl) (by first | rfl | (simp only [aA, aN, aL]; first | done | rfl)) (rfl) Try.underlying53 rfl (by rw [LZ.out]; kernel_rfl) ?_) | ((with_reducible refine gate_store (t := 53) (p := 13) rfl ?_); refine ev_storepart rfl 53 _ _ rfl rfl w1_.heap.size 2 cZ cE gM ([.slice AG rs.length cG] ++ (gT ++ ([.bool bw] ++ [.bool bf]))) rfl rfl (E.out.box 0 rfl) (by first | rfl | (simp only [aA, aN, aL]; first | done | rfl)) (LE.out) (by rw [LZ.out, LgM.out]) (by rw [LZ.out]; kernel_rfl) OZ.out ?_; intro W7_ hp hn; replace E := E.out.put2 0 hp hn (by have o := O.out; dsimp only [Off, OffA, Fct.box, Fct.made, List.set]; and_intros <;> first | trivial | omega); clear hp hn) | ((with_reducible refine gate_store (t := 56) (p := 15) rfl ?_); refine ev_storepart rfl 56 _ _ rfl rfl w1_.heap.size 7 Z56 (cE ++ (cZ ++ [.slice AG rs.length cG])) gT ([.bool bw] ++ [.bool bf]) rfl rfl (E.out.box 0 rfl) (by first | rfl | (simp only [aA, aN, aL]; first | done | rfl)) (by simp only [List.length_append, List.length_cons, List.length_nil, LE.out, LZ.out]) (by rw [LgT.out]; rfl) (by kernel_rfl) (onesC rfl (onesC rfl (onesC rfl (onesC rfl (onesC rfl (onesC rfl (onesC rfl (onesC rfl (onesC rfl (onesC rfl (onesC rfl onesN))))))))))) ?_; intro W8_ hp hn; replace E := E.out.put2 0 hp hn (by have o := O.out; dsimp only [Off, OffA, Fct.box, Fct.made, List.set]; and_intros <;> first | trivial | omega); clear hp hn) | ((with_reducible refine gate_store (t := 4) (p := 16) rfl ?_); refine ev_storecell rfl 4 _ _ rfl rfl w1_.heap.size 18 (.bool false) (.bool bw) (cE ++ (cZ ++ ([.slice AG rs.length cG] ++ Z56))) [.bool bf] rfl rfl (E.out.box 0 rfl) (by first | rfl | (simp only [aA, aN, aL]; first | done | rfl)) (by simp only [List.length_append, List.length_cons, List.length_nil, LE.out, LZ.out]) (by kernel_rfl) rfl rfl ?_; intro W9_ hp hn; replace E := E.out.put2 0 hp hn (by have o := O.out; dsimp only [Off, OffA, Fct.box, Fct.made, List.set]; and_intros <;> first | trivial | omega); clear hp hn) | ((with_reducible refine gate_store (t := 4) (p := 17) rfl ?_); refine ev_storecell rfl 4 _ _ rfl rfl w1_.heap.size 19 (.bool false) (.bool bf) (cE ++ (cZ ++ ([.slice AG rs.length cG] ++ (Z56 ++ [.bool false])))) [] rfl rfl (E.out.box 0 rfl) (by first | rfl | (simp only [aA, aN, aL]; first | done | rfl)) (by simp only [List.length_append, List.length_cons, List.length_nil, LE.out, LZ.out]) (by kernel_rfl) rfl rfl ?_; intro W10_ hp hn; replace E := E.out.put2 0 hp hn (by have o := O.out; dsimp only [Off, OffA, Fct.box, Fct.made, List.set]; and_intros <;> first | trivial | omega); clear hp hn) | ((with_reducible refine gate_dst (N := 18) rfl ?_); refine ev_loadpart rfl 58 _ rfl w1_.heap.size 0 [] c11_ [] _ rfl (E.out.box 0 rfl) (by simp only [aA, aN, aL]; rw [Ec11_.out]; first | done | rfl | (simp only [aA, aN, aL]; first | done | rfl)) (rfl) Try.underlying58 rfl (by rw [Lc11_.out]; kernel_rfl) ?_) | ((with_reducible refine gate_store (t := 58) (p := 6) rfl ?_); refine ev_storepart rfl 58 _ _ rfl rfl (w.heap.size + 1 + 1 + 1) 0 c11_ [] Z58 [] rfl rfl (E.out.box 3 rfl) (by first | rfl | (simp only [aA, aN, aL]; first | done | rfl)) (rfl) (by rw [Lc11_.out]; rfl) (by rw [Lc11_.out]; kernel_rfl) Oc11_.out ?_; intro W12_ hp hn; replace E := E.out.put2 3 hp hn (by have o := O.out; dsimp only [Off, OffA, Fct.box, Fct.made, List.set]; and_intros <;> first | trivial | omega); clear hp hn))
 have BX := Aside0.mk (show _ = some (Obj.cells (c11_ : List Value).toArray 58 (0, 0)) from by first | exact (E.out.box 3 rfl) | simpa only [aA, aN, aL] using (E.out.box 3 rfl))
 refine bodyPost_ret (oresults_c rfl _ _ (w.heap.size + 1 + 1 + 1) 58 _ _ _ rfl BX.out Try.underlying58 rfl (by rw [List.size_toArray, show (c11_ : List Value).length = 20 from Lc11_.out]; kernel_rfl)) rfl ?_
 exact ⟨_, rfl, (by rw [Ec11_.out]; exact hull (d := kStore) (comb (E.out.made 8 rfl) (comb (E.out.made 7 rfl) (comb ((Own.srow 118 k118).M_lower HBs.out (E.out.made 1 rfl)) (comb zero_56 (comb Mbool Mbool (fun k h1 h2 => by have o := O.out; (try simp only [Iv, true_and, or_false, false_or] at h1 h2) <;> omega)) (fun k h1 h2 => by have o := O.out; (try simp only [Iv, true_and, or_false, false_or] at h1 h2) <;> omega)) (fun k h1 h2 => by have o := O.out; (try simp only [Iv, true_and, or_false, false_or] at h1 h2) <;> omega)) (fun k h1 h2 => by have o := O.out; (try simp only [Iv, true_and, or_false, false_or] at h1 h2) <;> omega)) (fun k h1 h2 => by have o := O.out; (try simp only [Iv, true_and, or_false, false_or] at h1 h2) <;> omega)) (fun k h => by have o := O.out; (try simp only [Iv, true_and, or_false, false_or] at h) <;> omega)), E.out.below⟩
def implStop_t_T3 : Bool × List (List Nat × List Nat) := (true, [([], []), ([], []), ([1], [1]), ([2], [2]), ([3], [3]), ([4], [4]), ([], []), ([6], [6]), ([7, 5], [7]), ([0, 5, 8, 8], [0, 5, 8]), ([9, 9, 0, 1, 2, 3, 4, 5, 6, 7, 8, 9], [9]), ([10, 0, 1, 2, 3, 4, 5, 6, 7, 8, 9, 10], [])])
def implStop_t_B3 : List Nat := [0, 0, 2, 6, 14, 30, 0, 64, 254, 511, 1023, 2047]
theorem implStop_t_ok3_0 : regT (opsOf Try.f36 3) implStop_t_T3 implStop_t_B3 [] (.t 0 (.p 1 (.p 2 (.p 3 (.t 4 (.p 6 (.t 7 (.e 5 (.e 8 (.e 9 (.e 10 (.p 11 .d)))))))))))) = true := by kernel_rfl
theorem implStop_t (k : Nat) (a0 : List ByteArray) (a1 : List S135) (x : S53) (rs : List S118) (y : S53) (l0 : List ByteArray) (l1 : List S135) (l2 : Int) (l3 l4 l5 : List Int) (n : Int) (bf : Bool) (e0 : List ByteArray) (e1 : List S135) {cs : List Value} (w : World) (h : kStore.K w ((a0, a1), x, rs, (y, (l0, l1, l2, l3, l4, l5), n), true, bf) cs) (f1 : impl_cloneDisk.f a0 a1 = some (a0, a1)) (f2 : impl_cloneMeta.f k x.f0 x.f1 x.f2 x.f3 = some (x.f0, x.f1, x.f2, x.f3)) (f3 : ∀ r ∈ rs, impl_cloneMeta.f k r.f1.f0 r.f1.f1 r.f1.f2 r.f1.f3 = some (r.f1.f0, r.f1.f1, r.f1.f2, r.f1.f3)) (f4 : impl_cloneMeta.f k y.f0 y.f1 y.f2 y.f3 = some (y.f0, y.f1, y.f2, y.f3)) (f5 : ((l0.length ≤ 2000000 ∧ l1.length ≤ 2000000) ∧ l3.length ≤ 2000000 ∧ l4.length ≤ 2000000 ∧ l5.length ≤ 2000000)) (hl : rs.length ≤ 2000000) (f6 : impl_SyncDisk.f k l0 l1 = some (e0, e1)) :
  Calls Try.prog 36 #[.agg cs.toArray] w fun e w' => ∃ ds : List Value, e = .returned (.tuple #[.agg ds.toArray, .int .i64 0]) ∧ kStore.M w' w.heap.size (Fr w w') ((e0, e1), x, rs, (⟨0, 0, 0, []⟩, ([], [], 0, [], [], []), 0), false, false) ds ∧ Below w.heap.size w w' := by
 have KS0 := h
 obtain ⟨cD, _, rfl, hD, cM, _, rfl, hM, cR, _, rfl, hR, cT, _, rfl, hT, cB, cF, rfl, hW, hF⟩ := h
 obtain rfl : cB = [.bool true] := hW
 obtain rfl : cF = [.bool bf] := hF
 have hR2 := hR
 obtain ⟨AR, ccR, rfl, mR, rR⟩ := hR
 obtain ⟨cM2, _, rfl, hM2, cW_, cI, rfl, hW_, hI⟩ := hT
 obtain rfl : cI = [.int .i64 n] := hI
 obtain ⟨u0, _, rfl, hU0, u1, cW2, rfl, hU1, hW2⟩ := hW_
 have hV0 := hU0
 have hV1 := hU1
 obtain ⟨B0, d0, rfl, -, -⟩ := hU0
 obtain ⟨B1, d1, rfl, -, -⟩ := hU1
 obtain ⟨cs, hcs⟩ : ∃ cs, cs = cD ++ (cM ++ ([.slice AR rs.length ccR] ++ (cM2 ++ ([.slice B0 l0.length d0] ++ ([.slice B1 l1.length d1] ++ (cW2 ++ ([.int .i64 n] ++ ([.bool true] ++ [.bool bf])))))))) := ⟨_, rfl⟩
 simp only [List.append_assoc] at KS0 ⊢; rw [← hcs] at KS0 ⊢
 have Ecs := Aside0.mk hcs
 have KS := Aside0.mk KS0
 have KD := Aside0.mk (show kDisk.K w (a0, a1) cD from hD)
 have KM := Aside0.mk (show k53.K w x cM from hM)
 have KR := Aside0.mk hR2
 have CR := Aside0.mk rR
 have KM2 := Aside0.mk hM2; have KW0 := Aside0.mk (show (Own.srow 9 Kd.string).K w l0 [.slice B0 l0.length d0] from hV0); have KW1 := Aside0.mk (show (Own.srow 135 k135).K w l1 [.slice B1 l1.length d1] from hV1); have KW2 := Aside0.mk hW2
 have LM2 := Aside0.mk (show cM2.length = 4 from k53.K_len hM2); have LW2 := Aside0.mk (show cW2.length = 4 from Kd.K_len _ hW2)
 have LD := Aside0.mk (show cD.length = 2 from kDisk.K_len hD)
 have LM := Aside0.mk (show cM.length = 4 from k53.K_len hM)
 have Lcs := Aside0.mk (show cs.length = 20 from kStore.K_len KS0)
 have F1 := Aside0.mk f1
 have F2 := Aside0.mk f2
 have F3 := Aside0.mk f3
 have F4 := Aside0.mk f4
 have F5 := Aside0.mk f5
 have FL := Aside0.mk hl
 have F6 := Aside0.mk f6
 clear KS0 hD hM hR2 mR rR hcs f1 f2 f3 f4 f5 hl f6 hM2 hV0 hV1 hW2
 have O := Aside0.mk (Nat.le_refl w.heap.size)
 have E := Aside0.mk (Env.start w)
 go_enter Try.func36, Try.ntmps36
 go_upto_region 3 with (first | ((with_reducible refine gate_dst (N := 5) rfl ?_); replace O := Aside0.mk (And.intro E.out.le O.out); replace E := Aside0.mk (E.out.alloc cs 58 (g := w.heap.size) rfl); replace E := Aside0.mk (E.out.alloc Z58 58 (g := (w.heap.size + 1)) (by simp)); refine ev_loadcell rfl 4 _ rfl w.heap.size 18 (cD ++ (cM ++ ([.slice AR rs.length ccR] ++ (cM2 ++ ([.slice B0 l0.length d0] ++ ([.slice B1 l1.length d1] ++ (cW2 ++ [.int .i64 n]))))))) (.bool true) [.bool bf] rfl (E.out.box 1 rfl) (by rw [Ecs.out]; first | done | rfl | (simp only [aA, aN, aL]; first | done | rfl)) (by simp only [List.length_append, List.length_cons, List.length_nil, LD.out, LM.out, LM2.out, LW2.out]) Try.underlying4 rfl ?_))
 replace E := Aside0.mk E.out.drew
 refine tre_start implStop_t_ok3_0 (S := fun w' => w'.heap[w.heap.size]? = some (.cells (cs : List Value).toArray 58 (0, 0)) ∧ True) (by kernel_rfl) (fun _ _ _ _ h => h) ⟨(E.out.box 1 rfl), trivial⟩ (fun hHeld => ?_)
 generalize hq : World.drew _ = w1_ at hHeld ⊢; replace E := E.out.to hq; clear hq
 refine tre_loadpart (a' := ?ax2_) rfl rfl (by rfl) 58 _ rfl w.heap.size 0 [] cs [] _ rfl (fun w' hs => hs.1) (by first | rfl | (simp only [aA, aN, aL]; first | done | rfl)) (rfl) Try.underlying58 rfl (by rw [Lcs.out]; kernel_rfl) ?px2_ ?kx2_
 case px2_ => (show Act.put _ (some _) _ = _; simp only [Act.put, s_A, s_0, s_1, i64_w]; try rfl)
 iterate 3 (refine tre_p (v := ?_) (a' := ?_) rfl rfl (Or.inl ⟨by rfl, ?_⟩) ?_ ?_; rotate_left; (· intro w'; go_simp; with_reducible rfl); rotate_left; (· show Act.put _ (some _) _ = _; simp only [Act.put, s_A, s_0, s_1, i64_w]; try rfl))
 refine tre_loadpart (a' := ?ax3_) rfl rfl (by rfl) 32 _ rfl w.heap.size 11 (cD ++ (cM ++ ([.slice AR rs.length ccR] ++ cM2))) [.slice B0 l0.length d0, .slice B1 l1.length d1] (cW2 ++ ([.int .i64 n] ++ ([.bool true] ++ [.bool bf]))) _ rfl (fun w' hs => hs.1) (by rw [Ecs.out]; first | done | rfl | (simp only [aA, aN, aL]; first | done | rfl)) (by simp only [List.length_append, List.length_cons, List.length_nil, LD.out, LM.out, LM2.out]) Try.underlying32 rfl (by kernel_rfl) ?px3_ ?kx3_
 case px3_ => (show Act.put _ (some _) _ = _; simp only [Act.put, s_A, s_0, s_1, i64_w]; try rfl)
 (refine tre_p (v := ?_) (a' := ?_) rfl rfl (Or.inl ⟨by rfl, ?_⟩) ?_ ?_; rotate_left; (· intro w'; go_simp; with_reducible rfl); rotate_left; (· show Act.put _ (some _) _ = _; simp only [Act.put, s_A, s_0, s_1, i64_w]; try rfl))
 refine tre_loadpart (a' := ?ax4_) rfl rfl (by rfl) 53 _ rfl w.heap.size 2 cD cM ([.slice AR rs.length ccR] ++ (cM2 ++ ([.slice B0 l0.length d0] ++ ([.slice B1 l1.length d1] ++ (cW2 ++ ([.int .i64 n] ++ ([.bool true] ++ [.bool bf]))))))) _ rfl (fun w' hs => hs.1) (by rw [Ecs.out]; first | done | rfl | (simp only [aA, aN, aL]; first | done | rfl)) (LD.out) Try.underlying53 rfl (by rw [LM.out]; kernel_rfl) ?px4_ ?kx4_
 case px4_ => (show Act.put _ (some _) _ = _; simp only [Act.put, s_A, s_0, s_1, i64_w]; try rfl)
 refine tre_e rfl (ev1_call rfl Try.func89 (by kernel_rfl) rfl #[.agg [.slice B0 l0.length d0, .slice B1 l1.length d1].toArray] (by rfl) rfl (by (try simp only [List.map_toArray, List.map_cons, List.map_nil]); first | done | rfl) ?_)
 with_reducible refine (implSync_o k l0 l1 e0 e1 _ (kDisk_lit (E.out.K KW0.out) (E.out.K KW1.out)) F6.out).mono ?_
 rintro e w5_ ⟨d6_, rfl, Md6_, hb⟩
 have q := E.out.made4 O.out 2 rfl Md6_ hb; clear O E Md6_ hb; obtain ⟨n7_, m8_, Ld6_, Od6_, O, E⟩ := q
 refine ⟨_, rfl, ⟨(E.out.box 2 rfl), trivial⟩, (fun hHeld => ?_)⟩
 refine tre_norm (a' := ?_) ?_ ?_; rotate_left; (· show Act.put _ (some 14) _ = _; simp only [Act.put, s_A, s_0, s_1, i64_w]; try rfl)
 refine tre_e rfl (ev1_call rfl Try.func90 (by kernel_rfl) rfl #[.agg cM.toArray] (by rfl) rfl (by (try simp only [List.map_toArray, List.map_cons, List.map_nil]); first | done | rfl) ?_)
 with_reducible refine (cloneMeta_o k x x _ (E.out.K KM.out) F2.out).mono ?_
 rintro e w9_ ⟨d10_, rfl, Md10_, hb⟩
 have q := E.out.made4 O.out 4 rfl Md10_ hb; clear O E Md10_ hb; obtain ⟨n11_, m12_, Ld10_, Od10_, O, E⟩ := q
 refine ⟨_, rfl, ⟨(E.out.box 3 rfl), trivial⟩, (fun hHeld => ?_)⟩
 refine tre_norm (a' := ?_) ?_ ?_; rotate_left; (· show Act.put _ (some 17) _ = _; simp only [Act.put, s_A, s_0, s_1, i64_w]; try rfl)
 refine tre_e rfl (ev1_call rfl Try.func88 (by kernel_rfl) rfl #[.agg cs.toArray, .agg d6_.toArray, .agg d10_.toArray] (by rfl) rfl (by (try simp only [List.map_toArray, List.map_cons, List.map_nil]); first | done | rfl) ?_)
 with_reducible refine (stopped_o k a0 a1 x rs y l0 l1 l2 l3 l4 l5 n true bf n7_ _ (E.out.K KS.out) (E.out.made 1 rfl) (E.out.made 0 rfl) (by have e := E.out.below.size; exact e) (by have o := O.out; have e := E.out.le; and_intros <;> omega) F1.out F2.out F3.out F4.out F5.out FL.out).mono ?_
 rintro e w13_ ⟨d14_, rfl, Md14_, hb⟩
 have Ld14_ := Aside0.mk (show d14_.length = 20 from Kd.K_len _ (Kd.K_of_M _ Md14_)); have Od14_ := Aside0.mk (one_of_K (Kd.K_of_M _ Md14_))
 obtain ⟨m15_, hT, hE⟩ := E.out.hull_ Md14_ hb; replace O := Aside0.mk (And.intro hT O.out); replace E := Aside0.mk hE; clear hT hE Md14_ hb
 refine ⟨_, rfl, ⟨(E.out.box 4 rfl), trivial⟩, (fun hHeld => ?_)⟩
 refine tre_norm (a' := ?_) ?_ ?_; rotate_left; (· show Act.put _ (some 18) _ = _; simp only [Act.put, s_A, s_0, s_1, i64_w]; try rfl)
 refine tre_e rfl (ev1_storepart rfl (by rfl) 58 _ _ rfl (w.heap.size + 1) 0 d14_ [] Z58 [] rfl rfl (E.out.box 3 rfl) (by first | rfl | (simp only [aA, aN, aL]; first | done | rfl)) (rfl) (by rw [Ld14_.out]; rfl) (by rw [Ld14_.out]; kernel_rfl) Od14_.out (fun W16_ hp hn => ?_))
 replace E := E.out.put2 3 hp hn (by have o := O.out; dsimp only [Off, OffA, Fct.box, Fct.made, List.set]; and_intros <;> first | trivial | omega); clear hp hn
 refine ⟨⟨(E.out.box 4 rfl), trivial⟩, (fun hHeld => ?_)⟩
 (refine tre_p (v := ?_) (a' := ?_) rfl rfl (Or.inl ⟨by rfl, ?_⟩) ?_ ?_; rotate_left; (· intro w'; go_simp; with_reducible rfl); rotate_left; (· show Act.put _ (some _) _ = _; simp only [Act.put, s_A, s_0, s_1, i64_w]; try rfl))
 refine tre_done ?_
 clear hHeld
 go_wp2_with fail
 have BX := Aside0.mk (show _ = some (Obj.cells (d14_ : List Value).toArray 58 (0, 0)) from by first | exact (E.out.box 3 rfl) | simpa only [aA, aN, aL] using (E.out.box 3 rfl))
 refine bodyPost_ret (results_list (rs := [.cell 2 58, .tmp 3]) rfl (by simp) (.cell (w.heap.size + 1) 58 _ _ _ rfl BX.out Try.underlying58 rfl (by rw [List.size_toArray, show (d14_ : List Value).length = 20 from Ld14_.out]; kernel_rfl) (.tmp .nil))) rfl ?_
 exact ⟨_, rfl, (fresh (d := kStore) (E.out.made 0 rfl) (Nat.le_refl _)), E.out.below⟩
def specStop_t_T3 : Bool × List (List Nat × List Nat) := (true, [([], []), ([], []), ([1], [1]), ([2], [2]), ([3], [3]), ([4], [4]), ([], []), ([6], [6]), ([7, 5], [7]), ([0, 5, 8, 8], [0, 5, 8]), ([9, 9, 0, 1, 2, 3, 4, 5, 6, 7, 8, 9], [9]), ([10, 0, 1, 2, 3, 4, 5, 6, 7, 8, 9, 10], [])])
def specStop_t_B3 : List Nat := [0, 0, 2, 6, 14, 30, 0, 64, 254, 511, 1023, 2047]
theorem specStop_t_ok3_0 : regT (opsOf Try.f35 3) specStop_t_T3 specStop_t_B3 [] (.t 0 (.p 1 (.p 2 (.p 3 (.t 4 (.p 6 (.t 7 (.e 5 (.e 8 (.e 9 (.e 10 (.p 11 .d)))))))))))) = true := by kernel_rfl
theorem specStop_t (k : Nat) (a0 : List ByteArray) (a1 : List S135) (x : S53) (rs : List S118) (y : S53) (l0 : List ByteArray) (l1 : List S135) (l2 : Int) (l3 l4 l5 : List Int) (n : Int) (bf : Bool) (e0 : List ByteArray) (e1 : List S135) {cs : List Value} (w : World) (h : kStore.K w ((a0, a1), x, rs, (y, (l0, l1, l2, l3, l4, l5), n), true, bf) cs) (f1 : a0.length ≤ 2000000 ∧ a1.length ≤ 2000000) (f2 : SmallM x) (f3 : ∀ r ∈ rs, SmallM r.f1) (f4 : SmallM y) (f5 : ((l0.length ≤ 2000000 ∧ l1.length ≤ 2000000) ∧ l3.length ≤ 2000000 ∧ l4.length ≤ 2000000 ∧ l5.length ≤ 2000000)) (hl : rs.length ≤ 2000000) (f6 : spec_SyncDisk.f k l0 l1 = some (e0, e1)) :
  Calls Try.prog 35 #[.agg cs.toArray] w fun e w' => ∃ ds : List Value, e = .returned (.tuple #[.agg ds.toArray, .int .i64 0]) ∧ kStore.M w' w.heap.size (Fr w w') ((e0, e1), x, rs, (⟨0, 0, 0, []⟩, ([], [], 0, [], [], []), 0), false, false) ds ∧ Below w.heap.size w w' := by
 have KS0 := h
 obtain ⟨cD, _, rfl, hD, cM, _, rfl, hM, cR, _, rfl, hR, cT, _, rfl, hT, cB, cF, rfl, hW, hF⟩ := h
 obtain rfl : cB = [.bool true] := hW
 obtain rfl : cF = [.bool bf] := hF
 have hR2 := hR
 obtain ⟨AR, ccR, rfl, mR, rR⟩ := hR
 obtain ⟨cM2, _, rfl, hM2, cW_, cI, rfl, hW_, hI⟩ := hT
 obtain rfl : cI = [.int .i64 n] := hI
 obtain ⟨u0, _, rfl, hU0, u1, cW2, rfl, hU1, hW2⟩ := hW_
 have hV0 := hU0
 have hV1 := hU1
 obtain ⟨B0, d0, rfl, -, -⟩ := hU0
 obtain ⟨B1, d1, rfl, -, -⟩ := hU1
 obtain ⟨cs, hcs⟩ : ∃ cs, cs = cD ++ (cM ++ ([.slice AR rs.length ccR] ++ (cM2 ++ ([.slice B0 l0.length d0] ++ ([.slice B1 l1.length d1] ++ (cW2 ++ ([.int .i64 n] ++ ([.bool true] ++ [.bool bf])))))))) := ⟨_, rfl⟩
 simp only [List.append_assoc] at KS0 ⊢; rw [← hcs] at KS0 ⊢
 have Ecs := Aside0.mk hcs
 have KS := Aside0.mk KS0
 have KD := Aside0.mk (show kDisk.K w (a0, a1) cD from hD)
 have KM := Aside0.mk (show k53.K w x cM from hM)
 have KR := Aside0.mk hR2
 have CR := Aside0.mk rR
 have KM2 := Aside0.mk hM2; have KW0 := Aside0.mk (show (Own.srow 9 Kd.string).K w l0 [.slice B0 l0.length d0] from hV0); have KW1 := Aside0.mk (show (Own.srow 135 k135).K w l1 [.slice B1 l1.length d1] from hV1); have KW2 := Aside0.mk hW2
 have LM2 := Aside0.mk (show cM2.length = 4 from k53.K_len hM2); have LW2 := Aside0.mk (show cW2.length = 4 from Kd.K_len _ hW2)
 have LD := Aside0.mk (show cD.length = 2 from kDisk.K_len hD)
 have LM := Aside0.mk (show cM.length = 4 from k53.K_len hM)
 have Lcs := Aside0.mk (show cs.length = 20 from kStore.K_len KS0)
 have F1 := Aside0.mk f1
 have F2 := Aside0.mk f2
 have F3 := Aside0.mk f3
 have F4 := Aside0.mk f4
 have F5 := Aside0.mk f5
 have FL := Aside0.mk hl
 have F6 := Aside0.mk f6
 clear KS0 hD hM hR2 mR rR hcs f1 f2 f3 f4 f5 hl f6 hM2 hV0 hV1 hW2
 have O := Aside0.mk (Nat.le_refl w.heap.size)
 have E := Aside0.mk (Env.start w)
 go_enter Try.func35, Try.ntmps35
 go_upto_region 3 with (first | ((with_reducible refine gate_dst (N := 5) rfl ?_); replace O := Aside0.mk (And.intro E.out.le O.out); replace E := Aside0.mk (E.out.alloc cs 58 (g := w.heap.size) rfl); replace E := Aside0.mk (E.out.alloc Z58 58 (g := (w.heap.size + 1)) (by simp)); refine ev_loadcell rfl 4 _ rfl w.heap.size 18 (cD ++ (cM ++ ([.slice AR rs.length ccR] ++ (cM2 ++ ([.slice B0 l0.length d0] ++ ([.slice B1 l1.length d1] ++ (cW2 ++ [.int .i64 n]))))))) (.bool true) [.bool bf] rfl (E.out.box 1 rfl) (by rw [Ecs.out]; first | done | rfl | (simp only [aA, aN, aL]; first | done | rfl)) (by simp only [List.length_append, List.length_cons, List.length_nil, LD.out, LM.out, LM2.out, LW2.out]) Try.underlying4 rfl ?_))
 replace E := Aside0.mk E.out.drew
 refine tre_start specStop_t_ok3_0 (S := fun w' => w'.heap[w.heap.size]? = some (.cells (cs : List Value).toArray 58 (0, 0)) ∧ True) (by kernel_rfl) (fun _ _ _ _ h => h) ⟨(E.out.box 1 rfl), trivial⟩ (fun hHeld => ?_)
 generalize hq : World.drew _ = w1_ at hHeld ⊢; replace E := E.out.to hq; clear hq
 refine tre_loadpart (a' := ?ax2_) rfl rfl (by rfl) 58 _ rfl w.heap.size 0 [] cs [] _ rfl (fun w' hs => hs.1) (by first | rfl | (simp only [aA, aN, aL]; first | done | rfl)) (rfl) Try.underlying58 rfl (by rw [Lcs.out]; kernel_rfl) ?px2_ ?kx2_
 case px2_ => (show Act.put _ (some _) _ = _; simp only [Act.put, s_A, s_0, s_1, i64_w]; try rfl)
 iterate 3 (refine tre_p (v := ?_) (a' := ?_) rfl rfl (Or.inl ⟨by rfl, ?_⟩) ?_ ?_; rotate_left; (· intro w'; go_simp; with_reducible rfl); rotate_left; (· show Act.put _ (some _) _ = _; simp only [Act.put, s_A, s_0, s_1, i64_w]; try rfl))
 refine tre_loadpart (a' := ?ax3_) rfl rfl (by rfl) 32 _ rfl w.heap.size 11 (cD ++ (cM ++ ([.slice AR rs.length ccR] ++ cM2))) [.slice B0 l0.length d0, .slice B1 l1.length d1] (cW2 ++ ([.int .i64 n] ++ ([.bool true] ++ [.bool bf]))) _ rfl (fun w' hs => hs.1) (by rw [Ecs.out]; first | done | rfl | (simp only [aA, aN, aL]; first | done | rfl)) (by simp only [List.length_append, List.length_cons, List.length_nil, LD.out, LM.out, LM2.out]) Try.underlying32 rfl (by kernel_rfl) ?px3_ ?kx3_
 case px3_ => (show Act.put _ (some _) _ = _; simp only [Act.put, s_A, s_0, s_1, i64_w]; try rfl)
 (refine tre_p (v := ?_) (a' := ?_) rfl rfl (Or.inl ⟨by rfl, ?_⟩) ?_ ?_; rotate_left; (· intro w'; go_simp; with_reducible rfl); rotate_left; (· show Act.put _ (some _) _ = _; simp only [Act.put, s_A, s_0, s_1, i64_w]; try rfl))
 refine tre_loadpart (a' := ?ax4_) rfl rfl (by rfl) 53 _ rfl w.heap.size 2 cD cM ([.slice AR rs.length ccR] ++ (cM2 ++ ([.slice B0 l0.length d0] ++ ([.slice B1 l1.length d1] ++ (cW2 ++ ([.int .i64 n] ++ ([.bool true] ++ [.bool bf]))))))) _ rfl (fun w' hs => hs.1) (by rw [Ecs.out]; first | done | rfl | (simp only [aA, aN, aL]; first | done | rfl)) (LD.out) Try.underlying53 rfl (by rw [LM.out]; kernel_rfl) ?px4_ ?kx4_
 case px4_ => (show Act.put _ (some _) _ = _; simp only [Act.put, s_A, s_0, s_1, i64_w]; try rfl)
 refine tre_e rfl (ev1_call rfl Try.func86 (by kernel_rfl) rfl #[.agg [.slice B0 l0.length d0, .slice B1 l1.length d1].toArray] (by rfl) rfl (by (try simp only [List.map_toArray, List.map_cons, List.map_nil]); first | done | rfl) ?_)
 with_reducible refine (specSync_o k l0 l1 e0 e1 _ (kDisk_lit (E.out.K KW0.out) (E.out.K KW1.out)) F6.out).mono ?_
 rintro e w5_ ⟨d6_, rfl, Md6_, hb⟩
 have q := E.out.made4 O.out 2 rfl Md6_ hb; clear O E Md6_ hb; obtain ⟨n7_, m8_, Ld6_, Od6_, O, E⟩ := q
 refine ⟨_, rfl, ⟨(E.out.box 2 rfl), trivial⟩, (fun hHeld => ?_)⟩
 refine tre_norm (a' := ?_) ?_ ?_; rotate_left; (· show Act.put _ (some 14) _ = _; simp only [Act.put, s_A, s_0, s_1, i64_w]; try rfl)
 refine tre_e rfl (ev1_call rfl Try.func87 (by kernel_rfl) rfl #[.agg cM.toArray] (by rfl) rfl (by (try simp only [List.map_toArray, List.map_cons, List.map_nil]); first | done | rfl) ?_)
 with_reducible refine (l06Copy_o x x _ (E.out.K KM.out) ⟨rfl, F2.out⟩).mono ?_
 rintro e w9_ ⟨d10_, rfl, Md10_, hb⟩
 have q := E.out.made4 O.out 4 rfl Md10_ hb; clear O E Md10_ hb; obtain ⟨n11_, m12_, Ld10_, Od10_, O, E⟩ := q
 refine ⟨_, rfl, ⟨(E.out.box 3 rfl), trivial⟩, (fun hHeld => ?_)⟩
 refine tre_norm (a' := ?_) ?_ ?_; rotate_left; (· show Act.put _ (some 17) _ = _; simp only [Act.put, s_A, s_0, s_1, i64_w]; try rfl)
 refine tre_e rfl (ev1_call rfl Try.func85 (by kernel_rfl) rfl #[.agg cs.toArray, .agg d6_.toArray, .agg d10_.toArray] (by rfl) rfl (by (try simp only [List.map_toArray, List.map_cons, List.map_nil]); first | done | rfl) ?_)
 with_reducible refine (l12Rest_o a0 a1 x rs y l0 l1 l2 l3 l4 l5 n true bf n7_ _ (E.out.K KS.out) (E.out.made 1 rfl) (E.out.made 0 rfl) (by have e := E.out.below.size; exact e) (by have o := O.out; have e := E.out.le; and_intros <;> omega) F1.out F2.out F3.out F4.out F5.out FL.out).mono ?_
 rintro e w13_ ⟨d14_, rfl, Md14_, hb⟩
 have Ld14_ := Aside0.mk (show d14_.length = 20 from Kd.K_len _ (Kd.K_of_M _ Md14_)); have Od14_ := Aside0.mk (one_of_K (Kd.K_of_M _ Md14_))
 obtain ⟨m15_, hT, hE⟩ := E.out.hull_ Md14_ hb; replace O := Aside0.mk (And.intro hT O.out); replace E := Aside0.mk hE; clear hT hE Md14_ hb
 refine ⟨_, rfl, ⟨(E.out.box 4 rfl), trivial⟩, (fun hHeld => ?_)⟩
 refine tre_norm (a' := ?_) ?_ ?_; rotate_left; (· show Act.put _ (some 18) _ = _; simp only [Act.put, s_A, s_0, s_1, i64_w]; try rfl)
 refine tre_e rfl (ev1_storepart rfl (by rfl) 58 _ _ rfl (w.heap.size + 1) 0 d14_ [] Z58 [] rfl rfl (E.out.box 3 rfl) (by first | rfl | (simp only [aA, aN, aL]; first | done | rfl)) (rfl) (by rw [Ld14_.out]; rfl) (by rw [Ld14_.out]; kernel_rfl) Od14_.out (fun W16_ hp hn => ?_))
 replace E := E.out.put2 3 hp hn (by have o := O.out; dsimp only [Off, OffA, Fct.box, Fct.made, List.set]; and_intros <;> first | trivial | omega); clear hp hn
 refine ⟨⟨(E.out.box 4 rfl), trivial⟩, (fun hHeld => ?_)⟩
 (refine tre_p (v := ?_) (a' := ?_) rfl rfl (Or.inl ⟨by rfl, ?_⟩) ?_ ?_; rotate_left; (· intro w'; go_simp; with_reducible rfl); rotate_left; (· show Act.put _ (some _) _ = _; simp only [Act.put, s_A, s_0, s_1, i64_w]; try rfl))
 refine tre_done ?_
 clear hHeld
 go_wp2_with fail
 have BX := Aside0.mk (show _ = some (Obj.cells (d14_ : List Value).toArray 58 (0, 0)) from by first | exact (E.out.box 3 rfl) | simpa only [aA, aN, aL] using (E.out.box 3 rfl))
 refine bodyPost_ret (results_list (rs := [.cell 2 58, .tmp 3]) rfl (by simp) (.cell (w.heap.size + 1) 58 _ _ _ rfl BX.out Try.underlying58 rfl (by rw [List.size_toArray, show (d14_ : List Value).length = 20 from Ld14_.out]; kernel_rfl) (.tmp .nil))) rfl ?_
 exact ⟨_, rfl, (fresh (d := kStore) (E.out.made 0 rfl) (Nat.le_refl _)), E.out.below⟩
theorem implStop_f (k : Nat) (a0 : List ByteArray) (a1 : List S135) (x : S53) (rs : List S118) (y : S53) (l0 : List ByteArray) (l1 : List S135) (l2 : Int) (l3 l4 l5 : List Int) (n : Int) (bf : Bool) {cs : List Value} (w : World) (h : kStore.K w ((a0, a1), x, rs, (y, (l0, l1, l2, l3, l4, l5), n), false, bf) cs) (f1 : impl_cloneDisk.f a0 a1 = some (a0, a1)) (f2 : impl_cloneMeta.f k x.f0 x.f1 x.f2 x.f3 = some (x.f0, x.f1, x.f2, x.f3)) (f3 : ∀ r ∈ rs, impl_cloneMeta.f k r.f1.f0 r.f1.f1 r.f1.f2 r.f1.f3 = some (r.f1.f0, r.f1.f1, r.f1.f2, r.f1.f3)) (f4 : impl_cloneMeta.f k y.f0 y.f1 y.f2 y.f3 = some (y.f0, y.f1, y.f2, y.f3)) (f5 : ((l0.length ≤ 2000000 ∧ l1.length ≤ 2000000) ∧ l3.length ≤ 2000000 ∧ l4.length ≤ 2000000 ∧ l5.length ≤ 2000000)) (hl : rs.length ≤ 2000000) :
  Calls Try.prog 36 #[.agg cs.toArray] w fun e w' => ∃ ds : List Value, e = .returned (.tuple #[.agg ds.toArray, .int .i64 2]) ∧ kStore.M w' w.heap.size (Fr w w') ((a0, a1), x, rs, (y, (l0, l1, l2, l3, l4, l5), n), false, bf) ds ∧ Below w.heap.size w w' := by
 have KS0 := h
 obtain ⟨cD, _, rfl, hD, cM, _, rfl, hM, cR, _, rfl, hR, cT, _, rfl, hT, cB, cF, rfl, hW, hF⟩ := h
 obtain rfl : cB = [.bool false] := hW
 obtain rfl : cF = [.bool bf] := hF
 have hR2 := hR
 obtain ⟨AR, ccR, rfl, mR, rR⟩ := hR
 obtain ⟨cs, hcs⟩ : ∃ cs, cs = cD ++ (cM ++ ([.slice AR rs.length ccR] ++ (cT ++ ([.bool false] ++ [.bool bf])))) := ⟨_, rfl⟩
 rw [← hcs] at KS0 ⊢
 have Ecs := Aside0.mk hcs
 have KS := Aside0.mk KS0
 have KD := Aside0.mk (show kDisk.K w (a0, a1) cD from hD)
 have KM := Aside0.mk (show k53.K w x cM from hM)
 have KR := Aside0.mk hR2
 have CR := Aside0.mk rR
 have KT := Aside0.mk (show kTxn.K w (y, (l0, l1, l2, l3, l4, l5), n) cT from hT)
 have LD := Aside0.mk (show cD.length = 2 from kDisk.K_len hD)
 have LM := Aside0.mk (show cM.length = 4 from k53.K_len hM)
 have LT := Aside0.mk (show cT.length = 11 from kTxn.K_len hT)
 have Lcs := Aside0.mk (show cs.length = 20 from kStore.K_len KS0)
 have F1 := Aside0.mk f1
 have F2 := Aside0.mk f2
 have F3 := Aside0.mk f3
 have F4 := Aside0.mk f4
 have F5 := Aside0.mk f5
 have FL := Aside0.mk hl
 clear KS0 hD hM hT hR2 mR rR hcs f1 f2 f3 f4 f5 hl
 have O := Aside0.mk (Nat.le_refl w.heap.size)
 have E := Aside0.mk (Env.start w)
 go_enter Try.func36, Try.ntmps36
 go_wp2_with (first | ((with_reducible refine gate_dst (N := 5) rfl ?_); replace O := Aside0.mk (And.intro E.out.le O.out); replace E := Aside0.mk (E.out.alloc cs 58 (g := w.heap.size) rfl); replace E := Aside0.mk (E.out.alloc Z58 58 (g := (w.heap.size + 1)) (by simp)); refine ev_loadcell rfl 4 _ rfl w.heap.size 18 (cD ++ (cM ++ ([.slice AR rs.length ccR] ++ cT))) (.bool false) [.bool bf] rfl (E.out.box 1 rfl) (by rw [Ecs.out]; first | done | rfl | (simp only [aA, aN, aL]; first | done | rfl)) (by simp only [List.length_append, List.length_cons, List.length_nil, LD.out, LM.out, LT.out]) Try.underlying4 rfl ?_) | ((with_reducible refine gate_dst (N := 7) rfl ?_); refine ev_loadpart rfl 58 _ rfl w.heap.size 0 [] cs [] _ rfl (E.out.box 1 rfl) (by first | rfl | (simp only [aA, aN, aL]; first | done | rfl)) (rfl) Try.underlying58 rfl (by rw [Lcs.out]; kernel_rfl) ?_))
 ((with_reducible refine (cloneStore_o k a0 a1 x rs y l0 l1 l2 l3 l4 l5 n false bf _ (E.out.K KS.out) F1.out F2.out F3.out F4.out F5.out FL.out).mono ?_); rintro e w1_ ⟨d2_, rfl, Md2_, hb⟩)
 have Ld2_ := Aside0.mk (show d2_.length = 20 from Kd.K_len _ (Kd.K_of_M _ Md2_)); have Od2_ := Aside0.mk (one_of_K (Kd.K_of_M _ Md2_))
 obtain ⟨n3_, m4_, hT, hE⟩ := E.out.made_ Md2_ hb; replace O := Aside0.mk (And.intro hT O.out); replace E := Aside0.mk hE; clear hT hE Md2_ hb
 go_wp2_with (first | ((with_reducible refine gate_store (t := 58) (p := 2) rfl ?_); refine ev_storepart rfl 58 _ _ rfl rfl (w.heap.size + 1) 0 d2_ [] Z58 [] rfl rfl (E.out.box 1 rfl) (by first | rfl | (simp only [aA, aN, aL]; first | done | rfl)) (rfl) (by rw [Ld2_.out]; rfl) (by rw [Ld2_.out]; kernel_rfl) Od2_.out ?_; intro W5_ hp hn; replace E := E.out.put2 1 hp hn (by have o := O.out; dsimp only [Off, OffA, Fct.box, Fct.made, List.set]; and_intros <;> first | trivial | omega); clear hp hn))
 have BX := Aside0.mk (show _ = some (Obj.cells (d2_ : List Value).toArray 58 (0, 0)) from by first | exact (E.out.box 1 rfl) | simpa only [aA, aN, aL] using (E.out.box 1 rfl))
 refine bodyPost_ret (results_list (rs := [.cell 2 58, .tmp 3]) rfl (by simp) (.cell (w.heap.size + 1) 58 _ _ _ rfl BX.out Try.underlying58 rfl (by rw [List.size_toArray, show (d2_ : List Value).length = 20 from Ld2_.out]; kernel_rfl) (.tmp .nil))) rfl ?_
 exact ⟨_, rfl, (fresh (d := kStore) (E.out.made 0 rfl) (Nat.le_refl _)), E.out.below⟩
theorem specStop_f (a0 : List ByteArray) (a1 : List S135) (x : S53) (rs : List S118) (y : S53) (l0 : List ByteArray) (l1 : List S135) (l2 : Int) (l3 l4 l5 : List Int) (n : Int) (bf : Bool) {cs : List Value} (w : World) (h : kStore.K w ((a0, a1), x, rs, (y, (l0, l1, l2, l3, l4, l5), n), false, bf) cs) (f1 : a0.length ≤ 2000000 ∧ a1.length ≤ 2000000) (f2 : SmallM x) (f3 : ∀ r ∈ rs, SmallM r.f1) (f4 : SmallM y) (f5 : ((l0.length ≤ 2000000 ∧ l1.length ≤ 2000000) ∧ l3.length ≤ 2000000 ∧ l4.length ≤ 2000000 ∧ l5.length ≤ 2000000)) (hl : rs.length ≤ 2000000) :
  Calls Try.prog 35 #[.agg cs.toArray] w fun e w' => ∃ ds : List Value, e = .returned (.tuple #[.agg ds.toArray, .int .i64 2]) ∧ kStore.M w' w.heap.size (Fr w w') ((a0, a1), x, rs, (y, (l0, l1, l2, l3, l4, l5), n), false, bf) ds ∧ Below w.heap.size w w' := by
 have KS0 := h
 obtain ⟨cD, _, rfl, hD, cM, _, rfl, hM, cR, _, rfl, hR, cT, _, rfl, hT, cB, cF, rfl, hW, hF⟩ := h
 obtain rfl : cB = [.bool false] := hW
 obtain rfl : cF = [.bool bf] := hF
 have hR2 := hR
 obtain ⟨AR, ccR, rfl, mR, rR⟩ := hR
 obtain ⟨cs, hcs⟩ : ∃ cs, cs = cD ++ (cM ++ ([.slice AR rs.length ccR] ++ (cT ++ ([.bool false] ++ [.bool bf])))) := ⟨_, rfl⟩
 rw [← hcs] at KS0 ⊢
 have Ecs := Aside0.mk hcs
 have KS := Aside0.mk KS0
 have KD := Aside0.mk (show kDisk.K w (a0, a1) cD from hD)
 have KM := Aside0.mk (show k53.K w x cM from hM)
 have KR := Aside0.mk hR2
 have CR := Aside0.mk rR
 have KT := Aside0.mk (show kTxn.K w (y, (l0, l1, l2, l3, l4, l5), n) cT from hT)
 have LD := Aside0.mk (show cD.length = 2 from kDisk.K_len hD)
 have LM := Aside0.mk (show cM.length = 4 from k53.K_len hM)
 have LT := Aside0.mk (show cT.length = 11 from kTxn.K_len hT)
 have Lcs := Aside0.mk (show cs.length = 20 from kStore.K_len KS0)
 have F1 := Aside0.mk f1
 have F2 := Aside0.mk f2
 have F3 := Aside0.mk f3
 have F4 := Aside0.mk f4
 have F5 := Aside0.mk f5
 have FL := Aside0.mk hl
 clear KS0 hD hM hT hR2 mR rR hcs f1 f2 f3 f4 f5 hl
 have O := Aside0.mk (Nat.le_refl w.heap.size)
 have E := Aside0.mk (Env.start w)
 go_enter Try.func35, Try.ntmps35
 go_wp2_with (first | ((with_reducible refine gate_dst (N := 5) rfl ?_); replace O := Aside0.mk (And.intro E.out.le O.out); replace E := Aside0.mk (E.out.alloc cs 58 (g := w.heap.size) rfl); replace E := Aside0.mk (E.out.alloc Z58 58 (g := (w.heap.size + 1)) (by simp)); refine ev_loadcell rfl 4 _ rfl w.heap.size 18 (cD ++ (cM ++ ([.slice AR rs.length ccR] ++ cT))) (.bool false) [.bool bf] rfl (E.out.box 1 rfl) (by rw [Ecs.out]; first | done | rfl | (simp only [aA, aN, aL]; first | done | rfl)) (by simp only [List.length_append, List.length_cons, List.length_nil, LD.out, LM.out, LT.out]) Try.underlying4 rfl ?_) | ((with_reducible refine gate_dst (N := 7) rfl ?_); refine ev_loadpart rfl 58 _ rfl w.heap.size 0 [] cs [] _ rfl (E.out.box 1 rfl) (by first | rfl | (simp only [aA, aN, aL]; first | done | rfl)) (rfl) Try.underlying58 rfl (by rw [Lcs.out]; kernel_rfl) ?_))
 ((with_reducible refine (l12Copy_o a0 a1 x rs y l0 l1 l2 l3 l4 l5 n false bf _ (E.out.K KS.out) F1.out F2.out F3.out F4.out F5.out FL.out).mono ?_); rintro e w1_ ⟨d2_, rfl, Md2_, hb⟩)
 have Ld2_ := Aside0.mk (show d2_.length = 20 from Kd.K_len _ (Kd.K_of_M _ Md2_)); have Od2_ := Aside0.mk (one_of_K (Kd.K_of_M _ Md2_))
 obtain ⟨n3_, m4_, hT, hE⟩ := E.out.made_ Md2_ hb; replace O := Aside0.mk (And.intro hT O.out); replace E := Aside0.mk hE; clear hT hE Md2_ hb
 go_wp2_with (first | ((with_reducible refine gate_store (t := 58) (p := 2) rfl ?_); refine ev_storepart rfl 58 _ _ rfl rfl (w.heap.size + 1) 0 d2_ [] Z58 [] rfl rfl (E.out.box 1 rfl) (by first | rfl | (simp only [aA, aN, aL]; first | done | rfl)) (rfl) (by rw [Ld2_.out]; rfl) (by rw [Ld2_.out]; kernel_rfl) Od2_.out ?_; intro W5_ hp hn; replace E := E.out.put2 1 hp hn (by have o := O.out; dsimp only [Off, OffA, Fct.box, Fct.made, List.set]; and_intros <;> first | trivial | omega); clear hp hn))
 have BX := Aside0.mk (show _ = some (Obj.cells (d2_ : List Value).toArray 58 (0, 0)) from by first | exact (E.out.box 1 rfl) | simpa only [aA, aN, aL] using (E.out.box 1 rfl))
 refine bodyPost_ret (results_list (rs := [.cell 2 58, .tmp 3]) rfl (by simp) (.cell (w.heap.size + 1) 58 _ _ _ rfl BX.out Try.underlying58 rfl (by rw [List.size_toArray, show (d2_ : List Value).length = 20 from Ld2_.out]; kernel_rfl) (.tmp .nil))) rfl ?_
 exact ⟨_, rfl, (fresh (d := kStore) (E.out.made 0 rfl) (Nat.le_refl _)), E.out.below⟩
def laws_szFree.f (a0_0 : Int) (l0_1 : List Int) (a1 : Int) : Option (Int) := (laws_szIntS.f l0_1 a1).bind fun t215 => (if t215 < 0 then (some (-1)) else (some t215))
theorem laws_szFree.calls (a0_0 : Int) (A0_1 : Option Addr) (c0_1 : Nat) (l0_1 : List Int) (a1 : Int) (r : Int) (w : World) (hr0_1 : Kd.C (Kd.int .i64) w A0_1 l0_1.length l0_1) (hc0_1 : l0_1.length ≤ c0_1) (h : laws_szFree.f a0_0 l0_1 a1 = some r) :
  Calls Try.prog 158 #[.agg #[.int .i64 a0_0, .slice A0_1 l0_1.length c0_1], .int .i64 a1] w fun e w' => e = .returned (.int .i64 r) ∧ Below w.heap.size w w' := by
 have hu183 := Try.underlying183
 have HR0_1 := Aside0.mk hr0_1
 have HC0_1 := Aside0.mk hc0_1
 clear hr0_1 hc0_1
 have HB := Aside0.mk (Below.refl w.heap.size w)
 have H : ((laws_szIntS.f l0_1 a1).bind fun t215 => (if t215 < 0 then (some (-1)) else (some t215))) = some r := h
 clear h
 replace H := Option.bind_eq_some_iff.mp H
 obtain ⟨t215, A30, H⟩ := H
 replace H : (if t215 < 0 then (some (-1)) else (some t215)) = some r := H
 have A3 := Aside0.mk A30
 clear A30
 by_cases c4 : t215 < 0
 ·rw [if_pos c4] at H
  have c4b0 : decide (t215 < 0) = true := decide_eq_true c4
  clear c4
  obtain rfl := Option.some.inj H
  go_enter Try.func158, Try.ntmps158
  go_wp2_with (first | ((with_reducible refine gate_dst (N := 2) rfl ?_); refine box_event ?hg (N := 2) ?hd (cs := #[.int .i64 a0_0, .slice A0_1 l0_1.length c0_1]) (t := 183) ?hr ?_; (case hd => rfl); (case hg => rfl); (case hr => first | (go_simp; done) | (go_simp; rfl)); intro gb214 hg w5 hbox hb; have n0_ := Aside0.mk (below_step (by repeat (first | (with_reducible first | exact HB.out | apply below_alloc | apply pw_below_drewN | apply below_drew1) | exact HB.out)) hb); have n1_ := Aside0.mk (hbox); have n2_ := Aside0.mk ((by rw [hg]; exact (below_size (by repeat (first | (with_reducible first | exact HB.out | apply below_alloc | apply pw_below_drewN | apply below_drew1) | exact HB.out))) : w.heap.size ≤ gb214)); have n3_ := Aside0.mk ((by rw [hg]; exact (below_size (by repeat (first | (with_reducible first | exact HB.out | apply below_alloc | apply pw_below_drewN | apply below_drew1) | exact HB.out))) : w.heap.size ≤ gb214)); clear HB; have HB := n0_; have BK214 := n1_; have GW214 := n2_; have GE214 := n3_; clear n0_ n1_ n2_ n3_; clear hb hbox hg; have hcz6_0 : w5.cell? ⟨gb214, 0, none⟩ = some (.int .i64 a0_0) := (blk_cell BK214.out 0).trans rfl; have hcz6_1 : w5.cell? ⟨gb214, 1, none⟩ = some (.slice A0_1 l0_1.length c0_1) := (blk_cell BK214.out 1).trans rfl; have hfz6_0 := blk_frozen BK214.out 0; have hfz6_1 := blk_frozen BK214.out 1) | ((with_reducible refine gate_callee (f := 46) rfl ?_); refine goesL_ (some 8) rfl rfl Try.func46 (by kernel_rfl) rfl #[.slice A0_1 l0_1.length c0_1, .int .i64 a1] rfl (by (try simp only [List.map_toArray, List.map_cons, List.map_nil]); first | done | rfl | (simp only [List.length_drop, List.length_take]; rfl)) ?_; (with_reducible refine (laws_szIntS.calls _ _ l0_1 a1 t215 _ ?side1 ?side2 A3.out).mono ?_); (case side1 => repeat (first | exact (Kd.C_below HR0_1.out HB.out) | (with_reducible refine Kd.C_alloc ?_ _) | (with_reducible refine Kd.C_drewN ?_ _) | (with_reducible refine Kd.C_drew ?_))); (case side2 => exact HC0_1.out); rintro e w' ⟨rfl, ⟨nd, rfl⟩⟩; refine ⟨_, rfl, ?_⟩))
  go_ret
  exact ⟨by first | rfl | (simp [errW_none, errW_some] <;> rfl) | (simp [*, errW_none, errW_some] <;> rfl), by repeat (first | (with_reducible first | exact HB.out | apply below_alloc | apply pw_below_drewN | apply below_drew1 | refine below_set ?_ GE214.out) | exact HB.out)⟩
 ·rw [if_neg c4] at H
  have c4b0 : decide (t215 < 0) = false := decide_eq_false c4
  clear c4
  obtain rfl := Option.some.inj H
  go_enter Try.func158, Try.ntmps158
  go_wp2_with (first | ((with_reducible refine gate_dst (N := 2) rfl ?_); refine box_event ?hg (N := 2) ?hd (cs := #[.int .i64 a0_0, .slice A0_1 l0_1.length c0_1]) (t := 183) ?hr ?_; (case hd => rfl); (case hg => rfl); (case hr => first | (go_simp; done) | (go_simp; rfl)); intro gb214 hg w7 hbox hb; have n0_ := Aside0.mk (below_step (by repeat (first | (with_reducible first | exact HB.out | apply below_alloc | apply pw_below_drewN | apply below_drew1) | exact HB.out)) hb); have n1_ := Aside0.mk (hbox); have n2_ := Aside0.mk ((by rw [hg]; exact (below_size (by repeat (first | (with_reducible first | exact HB.out | apply below_alloc | apply pw_below_drewN | apply below_drew1) | exact HB.out))) : w.heap.size ≤ gb214)); have n3_ := Aside0.mk ((by rw [hg]; exact (below_size (by repeat (first | (with_reducible first | exact HB.out | apply below_alloc | apply pw_below_drewN | apply below_drew1) | exact HB.out))) : w.heap.size ≤ gb214)); clear HB; have HB := n0_; have BK214 := n1_; have GW214 := n2_; have GE214 := n3_; clear n0_ n1_ n2_ n3_; clear hb hbox hg; have hcz8_0 : w7.cell? ⟨gb214, 0, none⟩ = some (.int .i64 a0_0) := (blk_cell BK214.out 0).trans rfl; have hcz8_1 : w7.cell? ⟨gb214, 1, none⟩ = some (.slice A0_1 l0_1.length c0_1) := (blk_cell BK214.out 1).trans rfl; have hfz8_0 := blk_frozen BK214.out 0; have hfz8_1 := blk_frozen BK214.out 1) | ((with_reducible refine gate_callee (f := 46) rfl ?_); refine goesL_ (some 8) rfl rfl Try.func46 (by kernel_rfl) rfl #[.slice A0_1 l0_1.length c0_1, .int .i64 a1] rfl (by (try simp only [List.map_toArray, List.map_cons, List.map_nil]); first | done | rfl | (simp only [List.length_drop, List.length_take]; rfl)) ?_; (with_reducible refine (laws_szIntS.calls _ _ l0_1 a1 t215 _ ?side1 ?side2 A3.out).mono ?_); (case side1 => repeat (first | exact (Kd.C_below HR0_1.out HB.out) | (with_reducible refine Kd.C_alloc ?_ _) | (with_reducible refine Kd.C_drewN ?_ _) | (with_reducible refine Kd.C_drew ?_))); (case side2 => exact HC0_1.out); rintro e w' ⟨rfl, ⟨nd, rfl⟩⟩; refine ⟨_, rfl, ?_⟩))
  go_ret
  exact ⟨by first | rfl | (simp [errW_none, errW_some] <;> rfl) | (simp [*, errW_none, errW_some] <;> rfl), by repeat (first | (with_reducible first | exact HB.out | apply below_alloc | apply pw_below_drewN | apply below_drew1 | refine below_set ?_ GE214.out) | exact HB.out)⟩
def laws_szFreeS.l0 : Nat → List (S183) → Int → Int → Option (Int)
 | 0, _, _, _ => none
 | k + 1, x0, x1, x5 => if x5 < (x0.length : Int) then (if 0 ≤ x5 then ((laws_szFree.f ((rd_T183 x0 x5).f0) ((rd_T183 x0 x5).f1) x1).bind fun t217 => (if t217 < 0 then (some (-1)) else (laws_szFreeS.l0 k x0 t217 (wrap64 (x5 + 1))))) else (none)) else (some x1)
def laws_szFreeS.f (k : Nat) (l0 : List (S183)) (a1 : Int) : Option (Int) := if (wrap64 (a1 - (l0.length : Int))) < 0 then (some (-1)) else (laws_szFreeS.l0 k l0 (wrap64 (a1 - (l0.length : Int))) 0)
theorem laws_szFreeS.mono_l : ∀ k, (∀ y0 y1 y2, LeO (laws_szFreeS.l0 k y0 y1 y2) (laws_szFreeS.l0 (k + 1) y0 y1 y2))
 | 0 => fun _ _ _ r h => by simp [laws_szFreeS.l0] at h
 | k + 1 => by
  have ih0 := laws_szFreeS.mono_l k
  ·intro y0 y1 y2
   unfold laws_szFreeS.l0
   repeat' first
   | (with_reducible exact ih0 _ _ _)
   | (with_reducible exact LeO.refl _)
   | (with_reducible exact LeO.none _)
   | (with_reducible refine LeO.ite ?_ ?_)
   | (with_reducible refine LeO.bind ?_ (fun _ => ?_))
   | exact ih0 _ _ _
theorem laws_szFreeS.mono : ∀ a0 a1 k, LeO (laws_szFreeS.f k a0 a1) (laws_szFreeS.f (k + 1) a0 a1) := by
 intro a0 a1 k
 have ih0 := laws_szFreeS.mono_l k
 unfold laws_szFreeS.f
 repeat' first
   | (with_reducible exact ih0 _ _ _)
   | (with_reducible exact LeO.refl _)
   | (with_reducible exact LeO.none _)
   | (with_reducible refine LeO.ite ?_ ?_)
   | (with_reducible refine LeO.bind ?_ (fun _ => ?_))
   | exact ih0 _ _ _
theorem laws_szFreeS.calls (k : Nat) (A0 : Option Addr) (c0 : Nat) (l0 : List (S183)) (a1 : Int) (r : Int) (w : World) (hr0 : Kd.C k183 w A0 l0.length l0) (hc0 : l0.length ≤ c0) (h : laws_szFreeS.f k l0 a1 = some r) :
  Calls Try.prog 130 #[.slice A0 l0.length c0, .int .i64 a1] w fun e w' => e = .returned (.int .i64 r) ∧ Below w.heap.size w w' := by
 have hu183 := Try.underlying183
 have HR0 := Aside0.mk hr0
 have HC0 := Aside0.mk hc0
 clear hr0 hc0
 have HB := Aside0.mk (Below.refl w.heap.size w)
 have H : (if (wrap64 (a1 - (l0.length : Int))) < 0 then (some (-1)) else (laws_szFreeS.l0 k l0 (wrap64 (a1 - (l0.length : Int))) 0)) = some r := h
 clear h
 by_cases c3 : (wrap64 (a1 - (l0.length : Int))) < 0
 ·rw [if_pos c3] at H
  have c3b0 : decide ((wrap64 (a1 - (l0.length : Int))) < 0) = true := decide_eq_true c3
  clear c3
  obtain rfl := Option.some.inj H
  go_enter Try.func130, Try.ntmps130
  go_wp2
  go_ret
  exact ⟨by first | rfl | (simp [errW_none, errW_some] <;> rfl) | (simp [*, errW_none, errW_some] <;> rfl), by repeat (first | (with_reducible first | exact HB.out | apply below_alloc | apply pw_below_drewN | apply below_drew1) | exact HB.out)⟩
 ·rw [if_neg c3] at H
  have c3b0 : decide ((wrap64 (a1 - (l0.length : Int))) < 0) = false := decide_eq_false c3
  clear c3
  have H' := Aside0.mk H
  clear H
  go_enter Try.func130, Try.ntmps130
  go_wp2
  go_loopg [1, 5] k (fun kq v1 v5 w' => ∃ (x1_1 : Int) (x5_1 : Int), v1 = .int .i64 x1_1 ∧ v5 = .int .i64 x5_1 ∧ Aside0 (laws_szFreeS.l0 kq l0 x1_1 x5_1 = some r) ∧ Aside0 (kq ≤ k) ∧ Aside0 (Below w.heap.size w w'))
  case atStart => exact ⟨(wrap64 (a1 - (l0.length : Int))), (0), (by first | rfl | (simp; done) | (simp [*]; done)), (by first | rfl | (simp; done) | (simp [*]; done)), H', ⟨Nat.le_refl _⟩, ⟨by repeat (first | (with_reducible first | exact HB.out | apply below_alloc | apply pw_below_drewN | apply below_drew1) | exact HB.out)⟩⟩
  case round =>
   clear H'
   try clear c3
   try clear c3b0
   obtain ⟨x1_1, x5_1, rfl, rfl, HA, HK1, HB⟩ := hrel
   cases gk with
   | zero => exact absurd HA.out (by simp [laws_szFreeS.l0])
   | succ k1 =>
    have H := HA.out
    clear HA
    simp only [laws_szFreeS.l0] at H
    by_cases c4 : x5_1 < (l0.length : Int)
    ·rw [if_pos c4] at H
     have c4b0 : decide (x5_1 < (l0.length : Int)) = true := decide_eq_true c4
     clear c4
     by_cases c5 : 0 ≤ x5_1
     ·rw [if_pos c5] at H
      have c5b0 : decide (0 ≤ x5_1) = true := decide_eq_true c5
      clear c5
      replace H := Option.bind_eq_some_iff.mp H
      obtain ⟨t217, A60, H⟩ := H
      replace H : (if t217 < 0 then (some (-1)) else (laws_szFreeS.l0 k1 l0 t217 (wrap64 (x5_1 + 1)))) = some r := H
      have A6 := Aside0.mk A60
      clear A60
      by_cases c7 : t217 < 0
      ·rw [if_pos c7] at H
       have c7b0 : decide (t217 < 0) = true := decide_eq_true c7
       clear c7
       obtain rfl := Option.some.inj H
       have p216 : 0 ≤ (x5_1 : Int) := of_decide_eq_true (by with_reducible assumption)
       have q216 : x5_1 < (l0.length : Int) := of_decide_eq_true (by with_reducible assumption)
       obtain ⟨ad216, A216_1, c216_1, e216, hx216_0, hx216_1, hl216_1, hi216_1⟩ := at_T183 HR0.out x5_1 p216 q216
       cases e216
       replace hx216_0 := (HB.out.cell (World.block_lt_of_cell? w _ hx216_0)).trans hx216_0
       replace hx216_1 := (HB.out.cell (World.block_lt_of_cell? w _ hx216_1)).trans hx216_1
       have HR216_1 := Aside0.mk hi216_1
       have HC216_1 := Aside0.mk hl216_1
       clear hi216_1 hl216_1
       replace p216 := eq_true p216
       replace q216 := eq_true q216
       go_wp2_with (first | ((with_reducible refine gate_callee (f := 158) rfl ?_); refine goesL_ (some 23) rfl rfl Try.func158 (by kernel_rfl) rfl #[.agg #[.int .i64 ((rd_T183 l0 x5_1).f0), .slice A216_1 ((rd_T183 l0 x5_1).f1).length c216_1], .int .i64 x1_1] rfl (by (try simp only [List.map_toArray, List.map_cons, List.map_nil]); first | done | rfl | (simp only [List.length_drop, List.length_take]; rfl)) ?_; (with_reducible refine (laws_szFree.calls ((rd_T183 l0 x5_1).f0) _ _ ((rd_T183 l0 x5_1).f1) x1_1 t217 _ ?side1 ?side2 A6.out).mono ?_); (case side1 => repeat (first | exact (Kd.C_below HR216_1.out HB.out) | (with_reducible refine Kd.C_alloc ?_ _) | (with_reducible refine Kd.C_drewN ?_ _) | (with_reducible refine Kd.C_drew ?_))); (case side2 => exact HC216_1.out); rintro e w8 ⟨rfl, hb⟩; refine ⟨_, rfl, ?_⟩; have n0_ := Aside0.mk (below_step (by repeat (first | (with_reducible first | exact HB.out | apply below_alloc | apply pw_below_drewN | apply below_drew1) | exact HB.out)) hb); clear HB; have HB := n0_; clear n0_; (try clear hb); (try clear hb2); (try clear hk); (try clear hi)))
       go_ret
       exact ⟨by first | rfl | (simp [errW_none, errW_some] <;> rfl) | (simp [*, errW_none, errW_some] <;> rfl), by repeat (first | (with_reducible first | exact HB.out | apply below_alloc | apply pw_below_drewN | apply below_drew1) | exact HB.out)⟩
      ·rw [if_neg c7] at H
       have c7b0 : decide (t217 < 0) = false := decide_eq_false c7
       clear c7
       have H' := Aside0.mk H
       clear H
       have p216 : 0 ≤ (x5_1 : Int) := of_decide_eq_true (by with_reducible assumption)
       have q216 : x5_1 < (l0.length : Int) := of_decide_eq_true (by with_reducible assumption)
       obtain ⟨ad216, A216_1, c216_1, e216, hx216_0, hx216_1, hl216_1, hi216_1⟩ := at_T183 HR0.out x5_1 p216 q216
       cases e216
       replace hx216_0 := (HB.out.cell (World.block_lt_of_cell? w _ hx216_0)).trans hx216_0
       replace hx216_1 := (HB.out.cell (World.block_lt_of_cell? w _ hx216_1)).trans hx216_1
       have HR216_1 := Aside0.mk hi216_1
       have HC216_1 := Aside0.mk hl216_1
       clear hi216_1 hl216_1
       replace p216 := eq_true p216
       replace q216 := eq_true q216
       go_wp2_with (first | ((with_reducible refine gate_callee (f := 158) rfl ?_); refine goesL_ (some 23) rfl rfl Try.func158 (by kernel_rfl) rfl #[.agg #[.int .i64 ((rd_T183 l0 x5_1).f0), .slice A216_1 ((rd_T183 l0 x5_1).f1).length c216_1], .int .i64 x1_1] rfl (by (try simp only [List.map_toArray, List.map_cons, List.map_nil]); first | done | rfl | (simp only [List.length_drop, List.length_take]; rfl)) ?_; (with_reducible refine (laws_szFree.calls ((rd_T183 l0 x5_1).f0) _ _ ((rd_T183 l0 x5_1).f1) x1_1 t217 _ ?side1 ?side2 A6.out).mono ?_); (case side1 => repeat (first | exact (Kd.C_below HR216_1.out HB.out) | (with_reducible refine Kd.C_alloc ?_ _) | (with_reducible refine Kd.C_drewN ?_ _) | (with_reducible refine Kd.C_drew ?_))); (case side2 => exact HC216_1.out); rintro e w9 ⟨rfl, hb⟩; refine ⟨_, rfl, ?_⟩; have n0_ := Aside0.mk (below_step (by repeat (first | (with_reducible first | exact HB.out | apply below_alloc | apply pw_below_drewN | apply below_drew1) | exact HB.out)) hb); clear HB; have HB := n0_; clear n0_; (try clear hb); (try clear hb2); (try clear hk); (try clear hi)))
       go_roundg k1
       case measure => have := HK1.out; omega
       case rel => exact ⟨(t217), (wrap64 (x5_1 + 1)), (by first | rfl | (simp; done) | (simp [*]; done)), (by first | rfl | (simp; done) | (simp [*]; done)), H', ⟨by have := HK1.out; omega⟩, ⟨by repeat (first | (with_reducible first | exact HB.out | apply below_alloc | apply pw_below_drewN | apply below_drew1) | exact HB.out)⟩⟩
     ·rw [if_neg c5] at H
      exact absurd H (by simp)
    ·rw [if_neg c4] at H
     have c4b0 : decide (x5_1 < (l0.length : Int)) = false := decide_eq_false c4
     clear c4
     obtain rfl := Option.some.inj H
     go_wp2
     go_ret
     exact ⟨by first | rfl | (simp [errW_none, errW_some] <;> rfl) | (simp [*, errW_none, errW_some] <;> rfl), by repeat (first | (with_reducible first | exact HB.out | apply below_alloc | apply pw_below_drewN | apply below_drew1) | exact HB.out)⟩
def laws_szMeta.f (k : Nat) (a0_0 : Int) (a0_1 : Int) (a0_2 : Int) (l0_3 : List (S183)) (a1 : Int) : Option (Int) := (laws_szFreeS.f k l0_3 a1).bind fun t219 => (if t219 < 0 then (some (-1)) else (some t219))
theorem laws_szMeta.mono : ∀ a0 a1 a2 a3 a4 k, LeO (laws_szMeta.f k a0 a1 a2 a3 a4) (laws_szMeta.f (k + 1) a0 a1 a2 a3 a4) := by
 intro a0 a1 a2 a3 a4 k
 unfold laws_szMeta.f
 repeat' first
   | (with_reducible exact laws_szFreeS.mono _ _ _)
   | (with_reducible exact LeO.refl _)
   | (with_reducible exact LeO.none _)
   | (with_reducible refine LeO.ite ?_ ?_)
   | (with_reducible refine LeO.bind ?_ (fun _ => ?_))
   | exact laws_szFreeS.mono _ _ _
theorem laws_szMeta.calls (k : Nat) (a0_0 : Int) (a0_1 : Int) (a0_2 : Int) (A0_3 : Option Addr) (c0_3 : Nat) (l0_3 : List (S183)) (a1 : Int) (r : Int) (w : World) (hr0_3 : Kd.C k183 w A0_3 l0_3.length l0_3) (hc0_3 : l0_3.length ≤ c0_3) (h : laws_szMeta.f k a0_0 a0_1 a0_2 l0_3 a1 = some r) :
  Calls Try.prog 76 #[.agg #[.int .i64 a0_0, .int .i64 a0_1, .int .i64 a0_2, .slice A0_3 l0_3.length c0_3], .int .i64 a1] w fun e w' => e = .returned (.int .i64 r) ∧ Below w.heap.size w w' := by
 have hu69 := Try.underlying69
 have HR0_3 := Aside0.mk hr0_3
 have HC0_3 := Aside0.mk hc0_3
 clear hr0_3 hc0_3
 have HB := Aside0.mk (Below.refl w.heap.size w)
 have H : ((laws_szFreeS.f k l0_3 a1).bind fun t219 => (if t219 < 0 then (some (-1)) else (some t219))) = some r := h
 clear h
 replace H := Option.bind_eq_some_iff.mp H
 obtain ⟨t219, A30, H⟩ := H
 replace H : (if t219 < 0 then (some (-1)) else (some t219)) = some r := H
 have A3 := Aside0.mk A30
 clear A30
 by_cases c4 : t219 < 0
 ·rw [if_pos c4] at H
  have c4b0 : decide (t219 < 0) = true := decide_eq_true c4
  clear c4
  obtain rfl := Option.some.inj H
  go_enter Try.func76, Try.ntmps76
  go_wp2_with (first | ((with_reducible refine gate_dst (N := 2) rfl ?_); refine box_event ?hg (N := 2) ?hd (cs := #[.int .i64 a0_0, .int .i64 a0_1, .int .i64 a0_2, .slice A0_3 l0_3.length c0_3]) (t := 69) ?hr ?_; (case hd => rfl); (case hg => rfl); (case hr => first | (go_simp; done) | (go_simp; rfl)); intro gb218 hg w5 hbox hb; have n0_ := Aside0.mk (below_step (by repeat (first | (with_reducible first | exact HB.out | apply below_alloc | apply pw_below_drewN | apply below_drew1) | exact HB.out)) hb); have n1_ := Aside0.mk (hbox); have n2_ := Aside0.mk ((by rw [hg]; exact (below_size (by repeat (first | (with_reducible first | exact HB.out | apply below_alloc | apply pw_below_drewN | apply below_drew1) | exact HB.out))) : w.heap.size ≤ gb218)); have n3_ := Aside0.mk ((by rw [hg]; exact (below_size (by repeat (first | (with_reducible first | exact HB.out | apply below_alloc | apply pw_below_drewN | apply below_drew1) | exact HB.out))) : w.heap.size ≤ gb218)); clear HB; have HB := n0_; have BK218 := n1_; have GW218 := n2_; have GE218 := n3_; clear n0_ n1_ n2_ n3_; clear hb hbox hg; have hcz6_0 : w5.cell? ⟨gb218, 0, none⟩ = some (.int .i64 a0_0) := (blk_cell BK218.out 0).trans rfl; have hcz6_1 : w5.cell? ⟨gb218, 1, none⟩ = some (.int .i64 a0_1) := (blk_cell BK218.out 1).trans rfl; have hcz6_2 : w5.cell? ⟨gb218, 2, none⟩ = some (.int .i64 a0_2) := (blk_cell BK218.out 2).trans rfl; have hcz6_3 : w5.cell? ⟨gb218, 3, none⟩ = some (.slice A0_3 l0_3.length c0_3) := (blk_cell BK218.out 3).trans rfl; have hfz6_0 := blk_frozen BK218.out 0; have hfz6_1 := blk_frozen BK218.out 1; have hfz6_2 := blk_frozen BK218.out 2; have hfz6_3 := blk_frozen BK218.out 3) | ((with_reducible refine gate_callee (f := 130) rfl ?_); refine goesL_ (some 8) rfl rfl Try.func130 (by kernel_rfl) rfl #[.slice A0_3 l0_3.length c0_3, .int .i64 a1] rfl (by (try simp only [List.map_toArray, List.map_cons, List.map_nil]); first | done | rfl | (simp only [List.length_drop, List.length_take]; rfl)) ?_; (with_reducible refine (laws_szFreeS.calls k _ _ l0_3 a1 t219 _ ?side1 ?side2 A3.out).mono ?_); (case side1 => repeat (first | exact (Kd.C_below HR0_3.out HB.out) | (with_reducible refine Kd.C_alloc ?_ _) | (with_reducible refine Kd.C_drewN ?_ _) | (with_reducible refine Kd.C_drew ?_))); (case side2 => exact HC0_3.out); rintro e w7 ⟨rfl, hb⟩; refine ⟨_, rfl, ?_⟩; have n0_ := Aside0.mk (blk_below (g := gb218) (o := .cells #[.int .i64 a0_0, .int .i64 a0_1, .int .i64 a0_2, .slice A0_3 l0_3.length c0_3] 69 (0, 0)) (by (with_reducible repeat (first | refine blk_drewN ?_ _ | refine blk_drew ?_ | refine blk_alloc ?_ _)); exact BK218.out) hb); have n1_ := Aside0.mk (below_step (by repeat (first | (with_reducible first | exact HB.out | apply below_alloc | apply pw_below_drewN | apply below_drew1 | refine below_set ?_ GE218.out) | exact HB.out)) hb); clear BK218; clear HB; have BK218 := n0_; have HB := n1_; clear n0_ n1_; (try clear hb); (try clear hb2); (try clear hk); (try clear hi)))
  go_ret
  exact ⟨by first | rfl | (simp [errW_none, errW_some] <;> rfl) | (simp [*, errW_none, errW_some] <;> rfl), by repeat (first | (with_reducible first | exact HB.out | apply below_alloc | apply pw_below_drewN | apply below_drew1 | refine below_set ?_ GE218.out) | exact HB.out)⟩
 ·rw [if_neg c4] at H
  have c4b0 : decide (t219 < 0) = false := decide_eq_false c4
  clear c4
  obtain rfl := Option.some.inj H
  go_enter Try.func76, Try.ntmps76
  go_wp2_with (first | ((with_reducible refine gate_dst (N := 2) rfl ?_); refine box_event ?hg (N := 2) ?hd (cs := #[.int .i64 a0_0, .int .i64 a0_1, .int .i64 a0_2, .slice A0_3 l0_3.length c0_3]) (t := 69) ?hr ?_; (case hd => rfl); (case hg => rfl); (case hr => first | (go_simp; done) | (go_simp; rfl)); intro gb218 hg w8 hbox hb; have n0_ := Aside0.mk (below_step (by repeat (first | (with_reducible first | exact HB.out | apply below_alloc | apply pw_below_drewN | apply below_drew1) | exact HB.out)) hb); have n1_ := Aside0.mk (hbox); have n2_ := Aside0.mk ((by rw [hg]; exact (below_size (by repeat (first | (with_reducible first | exact HB.out | apply below_alloc | apply pw_below_drewN | apply below_drew1) | exact HB.out))) : w.heap.size ≤ gb218)); have n3_ := Aside0.mk ((by rw [hg]; exact (below_size (by repeat (first | (with_reducible first | exact HB.out | apply below_alloc | apply pw_below_drewN | apply below_drew1) | exact HB.out))) : w.heap.size ≤ gb218)); clear HB; have HB := n0_; have BK218 := n1_; have GW218 := n2_; have GE218 := n3_; clear n0_ n1_ n2_ n3_; clear hb hbox hg; have hcz9_0 : w8.cell? ⟨gb218, 0, none⟩ = some (.int .i64 a0_0) := (blk_cell BK218.out 0).trans rfl; have hcz9_1 : w8.cell? ⟨gb218, 1, none⟩ = some (.int .i64 a0_1) := (blk_cell BK218.out 1).trans rfl; have hcz9_2 : w8.cell? ⟨gb218, 2, none⟩ = some (.int .i64 a0_2) := (blk_cell BK218.out 2).trans rfl; have hcz9_3 : w8.cell? ⟨gb218, 3, none⟩ = some (.slice A0_3 l0_3.length c0_3) := (blk_cell BK218.out 3).trans rfl; have hfz9_0 := blk_frozen BK218.out 0; have hfz9_1 := blk_frozen BK218.out 1; have hfz9_2 := blk_frozen BK218.out 2; have hfz9_3 := blk_frozen BK218.out 3) | ((with_reducible refine gate_callee (f := 130) rfl ?_); refine goesL_ (some 8) rfl rfl Try.func130 (by kernel_rfl) rfl #[.slice A0_3 l0_3.length c0_3, .int .i64 a1] rfl (by (try simp only [List.map_toArray, List.map_cons, List.map_nil]); first | done | rfl | (simp only [List.length_drop, List.length_take]; rfl)) ?_; (with_reducible refine (laws_szFreeS.calls k _ _ l0_3 a1 t219 _ ?side1 ?side2 A3.out).mono ?_); (case side1 => repeat (first | exact (Kd.C_below HR0_3.out HB.out) | (with_reducible refine Kd.C_alloc ?_ _) | (with_reducible refine Kd.C_drewN ?_ _) | (with_reducible refine Kd.C_drew ?_))); (case side2 => exact HC0_3.out); rintro e w10 ⟨rfl, hb⟩; refine ⟨_, rfl, ?_⟩; have n0_ := Aside0.mk (blk_below (g := gb218) (o := .cells #[.int .i64 a0_0, .int .i64 a0_1, .int .i64 a0_2, .slice A0_3 l0_3.length c0_3] 69 (0, 0)) (by (with_reducible repeat (first | refine blk_drewN ?_ _ | refine blk_drew ?_ | refine blk_alloc ?_ _)); exact BK218.out) hb); have n1_ := Aside0.mk (below_step (by repeat (first | (with_reducible first | exact HB.out | apply below_alloc | apply pw_below_drewN | apply below_drew1 | refine below_set ?_ GE218.out) | exact HB.out)) hb); clear BK218; clear HB; have BK218 := n0_; have HB := n1_; clear n0_ n1_; (try clear hb); (try clear hb2); (try clear hk); (try clear hi)))
  go_ret
  exact ⟨by first | rfl | (simp [errW_none, errW_some] <;> rfl) | (simp [*, errW_none, errW_some] <;> rfl), by repeat (first | (with_reducible first | exact HB.out | apply below_alloc | apply pw_below_drewN | apply below_drew1 | refine below_set ?_ GE218.out) | exact HB.out)⟩
def laws_szTxn.f (k : Nat) (a0_0 : Int) (a0_1 : Int) (a0_2 : Int) (l0_3 : List (S183)) (l0_4 : List ByteArray) (l0_5 : List (S140)) (a0_6 : Int) (l0_7 : List Int) (l0_8 : List Int) (l0_9 : List Int) (a0_10 : Int) (a1 : Int) : Option (Int) := (laws_szMeta.f k a0_0 a0_1 a0_2 l0_3 a1).bind fun t221 => (if t221 < 0 then (some (-1)) else ((laws_szWork.f k l0_4 l0_5 a0_6 l0_7 l0_8 l0_9 t221).bind fun t222 => (if t222 < 0 then (some (-1)) else (some t222))))
theorem laws_szTxn.calls (k : Nat) (a0_0 : Int) (a0_1 : Int) (a0_2 : Int) (A0_3 : Option Addr) (c0_3 : Nat) (l0_3 : List (S183)) (A0_4 : Option Addr) (c0_4 : Nat) (l0_4 : List ByteArray) (A0_5 : Option Addr) (c0_5 : Nat) (l0_5 : List (S140)) (a0_6 : Int) (A0_7 : Option Addr) (c0_7 : Nat) (l0_7 : List Int) (A0_8 : Option Addr) (c0_8 : Nat) (l0_8 : List Int) (A0_9 : Option Addr) (c0_9 : Nat) (l0_9 : List Int) (a0_10 : Int) (a1 : Int) (r : Int) (w : World) (hr0_3 : Kd.C k183 w A0_3 l0_3.length l0_3) (hc0_3 : l0_3.length ≤ c0_3) (hr0_4 : Kd.C Kd.string w A0_4 l0_4.length l0_4) (hc0_4 : l0_4.length ≤ c0_4) (hr0_5 : Kd.C k140 w A0_5 l0_5.length l0_5) (hc0_5 : l0_5.length ≤ c0_5) (hr0_7 : Kd.C (Kd.int .i64) w A0_7 l0_7.length l0_7) (hc0_7 : l0_7.length ≤ c0_7) (hr0_8 : Kd.C (Kd.int .i64) w A0_8 l0_8.length l0_8) (hc0_8 : l0_8.length ≤ c0_8) (hr0_9 : Kd.C (Kd.int .i64) w A0_9 l0_9.length l0_9) (hc0_9 : l0_9.length ≤ c0_9) (h : laws_szTxn.f k a0_0 a0_1 a0_2 l0_3 l0_4 l0_5 a0_6 l0_7 l0_8 l0_9 a0_10 a1 = some r) :
  Calls Try.prog 37 #[.agg #[.int .i64 a0_0, .int .i64 a0_1, .int .i64 a0_2, .slice A0_3 l0_3.length c0_3, .slice A0_4 l0_4.length c0_4, .slice A0_5 l0_5.length c0_5, .int .i64 a0_6, .slice A0_7 l0_7.length c0_7, .slice A0_8 l0_8.length c0_8, .slice A0_9 l0_9.length c0_9, .int .i64 a0_10], .int .i64 a1] w fun e w' => e = .returned (.int .i64 r) ∧ Below w.heap.size w w' := by
 have hu72 := Try.underlying72
 have hu69 := Try.underlying69
 have hu28 := Try.underlying28
 have HR0_3 := Aside0.mk hr0_3
 have HC0_3 := Aside0.mk hc0_3
 clear hr0_3 hc0_3
 have HR0_4 := Aside0.mk hr0_4
 have HC0_4 := Aside0.mk hc0_4
 clear hr0_4 hc0_4
 have HR0_5 := Aside0.mk hr0_5
 have HC0_5 := Aside0.mk hc0_5
 clear hr0_5 hc0_5
 have HR0_7 := Aside0.mk hr0_7
 have HC0_7 := Aside0.mk hc0_7
 clear hr0_7 hc0_7
 have HR0_8 := Aside0.mk hr0_8
 have HC0_8 := Aside0.mk hc0_8
 clear hr0_8 hc0_8
 have HR0_9 := Aside0.mk hr0_9
 have HC0_9 := Aside0.mk hc0_9
 clear hr0_9 hc0_9
 have HB := Aside0.mk (Below.refl w.heap.size w)
 have H : ((laws_szMeta.f k a0_0 a0_1 a0_2 l0_3 a1).bind fun t221 => (if t221 < 0 then (some (-1)) else ((laws_szWork.f k l0_4 l0_5 a0_6 l0_7 l0_8 l0_9 t221).bind fun t222 => (if t222 < 0 then (some (-1)) else (some t222))))) = some r := h
 clear h
 replace H := Option.bind_eq_some_iff.mp H
 obtain ⟨t221, A30, H⟩ := H
 replace H : (if t221 < 0 then (some (-1)) else ((laws_szWork.f k l0_4 l0_5 a0_6 l0_7 l0_8 l0_9 t221).bind fun t222 => (if t222 < 0 then (some (-1)) else (some t222)))) = some r := H
 have A3 := Aside0.mk A30
 clear A30
 by_cases c4 : t221 < 0
 ·rw [if_pos c4] at H
  have c4b0 : decide (t221 < 0) = true := decide_eq_true c4
  clear c4
  obtain rfl := Option.some.inj H
  go_enter Try.func37, Try.ntmps37
  go_wp2_with (first | ((with_reducible refine gate_dst (N := 2) rfl ?_); refine box_event ?hg (N := 2) ?hd (cs := #[.int .i64 a0_0, .int .i64 a0_1, .int .i64 a0_2, .slice A0_3 l0_3.length c0_3, .slice A0_4 l0_4.length c0_4, .slice A0_5 l0_5.length c0_5, .int .i64 a0_6, .slice A0_7 l0_7.length c0_7, .slice A0_8 l0_8.length c0_8, .slice A0_9 l0_9.length c0_9, .int .i64 a0_10]) (t := 72) ?hr ?_; (case hd => rfl); (case hg => rfl); (case hr => first | (go_simp; done) | (go_simp; rfl)); intro gb220 hg w5 hbox hb; have n0_ := Aside0.mk (below_step (by repeat (first | (with_reducible first | exact HB.out | apply below_alloc | apply pw_below_drewN | apply below_drew1) | exact HB.out)) hb); have n1_ := Aside0.mk (hbox); have n2_ := Aside0.mk ((by rw [hg]; exact (below_size (by repeat (first | (with_reducible first | exact HB.out | apply below_alloc | apply pw_below_drewN | apply below_drew1) | exact HB.out))) : w.heap.size ≤ gb220)); have n3_ := Aside0.mk ((by rw [hg]; exact (below_size (by repeat (first | (with_reducible first | exact HB.out | apply below_alloc | apply pw_below_drewN | apply below_drew1) | exact HB.out))) : w.heap.size ≤ gb220)); clear HB; have HB := n0_; have BK220 := n1_; have GW220 := n2_; have GE220 := n3_; clear n0_ n1_ n2_ n3_; clear hb hbox hg; have hcz6_0 : w5.cell? ⟨gb220, 0, none⟩ = some (.int .i64 a0_0) := (blk_cell BK220.out 0).trans rfl; have hcz6_1 : w5.cell? ⟨gb220, 1, none⟩ = some (.int .i64 a0_1) := (blk_cell BK220.out 1).trans rfl; have hcz6_2 : w5.cell? ⟨gb220, 2, none⟩ = some (.int .i64 a0_2) := (blk_cell BK220.out 2).trans rfl; have hcz6_3 : w5.cell? ⟨gb220, 3, none⟩ = some (.slice A0_3 l0_3.length c0_3) := (blk_cell BK220.out 3).trans rfl; have hcz6_4 : w5.cell? ⟨gb220, 4, none⟩ = some (.slice A0_4 l0_4.length c0_4) := (blk_cell BK220.out 4).trans rfl; have hcz6_5 : w5.cell? ⟨gb220, 5, none⟩ = some (.slice A0_5 l0_5.length c0_5) := (blk_cell BK220.out 5).trans rfl; have hcz6_6 : w5.cell? ⟨gb220, 6, none⟩ = some (.int .i64 a0_6) := (blk_cell BK220.out 6).trans rfl; have hcz6_7 : w5.cell? ⟨gb220, 7, none⟩ = some (.slice A0_7 l0_7.length c0_7) := (blk_cell BK220.out 7).trans rfl; have hcz6_8 : w5.cell? ⟨gb220, 8, none⟩ = some (.slice A0_8 l0_8.length c0_8) := (blk_cell BK220.out 8).trans rfl; have hcz6_9 : w5.cell? ⟨gb220, 9, none⟩ = some (.slice A0_9 l0_9.length c0_9) := (blk_cell BK220.out 9).trans rfl; have hcz6_10 : w5.cell? ⟨gb220, 10, none⟩ = some (.int .i64 a0_10) := (blk_cell BK220.out 10).trans rfl; have hfz6_0 := blk_frozen BK220.out 0; have hfz6_1 := blk_frozen BK220.out 1; have hfz6_2 := blk_frozen BK220.out 2; have hfz6_3 := blk_frozen BK220.out 3; have hfz6_4 := blk_frozen BK220.out 4; have hfz6_5 := blk_frozen BK220.out 5; have hfz6_6 := blk_frozen BK220.out 6; have hfz6_7 := blk_frozen BK220.out 7; have hfz6_8 := blk_frozen BK220.out 8; have hfz6_9 := blk_frozen BK220.out 9; have hfz6_10 := blk_frozen BK220.out 10) | ((with_reducible refine gate_callee (f := 76) rfl ?_); refine goesL_ (some 8) rfl rfl Try.func76 (by kernel_rfl) rfl #[.agg #[.int .i64 a0_0, .int .i64 a0_1, .int .i64 a0_2, .slice A0_3 l0_3.length c0_3], .int .i64 a1] rfl (by (try simp only [List.map_toArray, List.map_cons, List.map_nil]); first | done | rfl | (simp only [List.length_drop, List.length_take]; rfl)) ?_; (with_reducible refine (laws_szMeta.calls k a0_0 a0_1 a0_2 _ _ l0_3 a1 t221 _ ?side1 ?side2 A3.out).mono ?_); (case side1 => repeat (first | exact (Kd.C_below HR0_3.out HB.out) | (with_reducible refine Kd.C_alloc ?_ _) | (with_reducible refine Kd.C_drewN ?_ _) | (with_reducible refine Kd.C_drew ?_))); (case side2 => exact HC0_3.out); rintro e w7 ⟨rfl, hb⟩; refine ⟨_, rfl, ?_⟩; have n0_ := Aside0.mk (blk_below (g := gb220) (o := .cells #[.int .i64 a0_0, .int .i64 a0_1, .int .i64 a0_2, .slice A0_3 l0_3.length c0_3, .slice A0_4 l0_4.length c0_4, .slice A0_5 l0_5.length c0_5, .int .i64 a0_6, .slice A0_7 l0_7.length c0_7, .slice A0_8 l0_8.length c0_8, .slice A0_9 l0_9.length c0_9, .int .i64 a0_10] 72 (0, 0)) (by (with_reducible repeat (first | refine blk_drewN ?_ _ | refine blk_drew ?_ | refine blk_alloc ?_ _)); exact BK220.out) hb); have n1_ := Aside0.mk (below_step (by repeat (first | (with_reducible first | exact HB.out | apply below_alloc | apply pw_below_drewN | apply below_drew1 | refine below_set ?_ GE220.out) | exact HB.out)) hb); clear BK220; clear HB; have BK220 := n0_; have HB := n1_; clear n0_ n1_; (try clear hb); (try clear hb2); (try clear hk); (try clear hi)))
  go_ret
  exact ⟨by first | rfl | (simp [errW_none, errW_some] <;> rfl) | (simp [*, errW_none, errW_some] <;> rfl), by repeat (first | (with_reducible first | exact HB.out | apply below_alloc | apply pw_below_drewN | apply below_drew1 | refine below_set ?_ GE220.out) | exact HB.out)⟩
 ·rw [if_neg c4] at H
  have c4b0 : decide (t221 < 0) = false := decide_eq_false c4
  clear c4
  replace H := Option.bind_eq_some_iff.mp H
  obtain ⟨t222, A80, H⟩ := H
  replace H : (if t222 < 0 then (some (-1)) else (some t222)) = some r := H
  have A8 := Aside0.mk A80
  clear A80
  by_cases c9 : t222 < 0
  ·rw [if_pos c9] at H
   have c9b0 : decide (t222 < 0) = true := decide_eq_true c9
   clear c9
   obtain rfl := Option.some.inj H
   go_enter Try.func37, Try.ntmps37
   go_wp2_with (first | ((with_reducible refine gate_dst (N := 2) rfl ?_); refine box_event ?hg (N := 2) ?hd (cs := #[.int .i64 a0_0, .int .i64 a0_1, .int .i64 a0_2, .slice A0_3 l0_3.length c0_3, .slice A0_4 l0_4.length c0_4, .slice A0_5 l0_5.length c0_5, .int .i64 a0_6, .slice A0_7 l0_7.length c0_7, .slice A0_8 l0_8.length c0_8, .slice A0_9 l0_9.length c0_9, .int .i64 a0_10]) (t := 72) ?hr ?_; (case hd => rfl); (case hg => rfl); (case hr => first | (go_simp; done) | (go_simp; rfl)); intro gb220 hg w10 hbox hb; have n0_ := Aside0.mk (below_step (by repeat (first | (with_reducible first | exact HB.out | apply below_alloc | apply pw_below_drewN | apply below_drew1) | exact HB.out)) hb); have n1_ := Aside0.mk (hbox); have n2_ := Aside0.mk ((by rw [hg]; exact (below_size (by repeat (first | (with_reducible first | exact HB.out | apply below_alloc | apply pw_below_drewN | apply below_drew1) | exact HB.out))) : w.heap.size ≤ gb220)); have n3_ := Aside0.mk ((by rw [hg]; exact (below_size (by repeat (first | (with_reducible first | exact HB.out | apply below_alloc | apply pw_below_drewN | apply below_drew1) | exact HB.out))) : w.heap.size ≤ gb220)); clear HB; have HB := n0_; have BK220 := n1_; have GW220 := n2_; have GE220 := n3_; clear n0_ n1_ n2_ n3_; clear hb hbox hg; have hcz11_0 : w10.cell? ⟨gb220, 0, none⟩ = some (.int .i64 a0_0) := (blk_cell BK220.out 0).trans rfl; have hcz11_1 : w10.cell? ⟨gb220, 1, none⟩ = some (.int .i64 a0_1) := (blk_cell BK220.out 1).trans rfl; have hcz11_2 : w10.cell? ⟨gb220, 2, none⟩ = some (.int .i64 a0_2) := (blk_cell BK220.out 2).trans rfl; have hcz11_3 : w10.cell? ⟨gb220, 3, none⟩ = some (.slice A0_3 l0_3.length c0_3) := (blk_cell BK220.out 3).trans rfl; have hcz11_4 : w10.cell? ⟨gb220, 4, none⟩ = some (.slice A0_4 l0_4.length c0_4) := (blk_cell BK220.out 4).trans rfl; have hcz11_5 : w10.cell? ⟨gb220, 5, none⟩ = some (.slice A0_5 l0_5.length c0_5) := (blk_cell BK220.out 5).trans rfl; have hcz11_6 : w10.cell? ⟨gb220, 6, none⟩ = some (.int .i64 a0_6) := (blk_cell BK220.out 6).trans rfl; have hcz11_7 : w10.cell? ⟨gb220, 7, none⟩ = some (.slice A0_7 l0_7.length c0_7) := (blk_cell BK220.out 7).trans rfl; have hcz11_8 : w10.cell? ⟨gb220, 8, none⟩ = some (.slice A0_8 l0_8.length c0_8) := (blk_cell BK220.out 8).trans rfl; have hcz11_9 : w10.cell? ⟨gb220, 9, none⟩ = some (.slice A0_9 l0_9.length c0_9) := (blk_cell BK220.out 9).trans rfl; have hcz11_10 : w10.cell? ⟨gb220, 10, none⟩ = some (.int .i64 a0_10) := (blk_cell BK220.out 10).trans rfl; have hfz11_0 := blk_frozen BK220.out 0; have hfz11_1 := blk_frozen BK220.out 1; have hfz11_2 := blk_frozen BK220.out 2; have hfz11_3 := blk_frozen BK220.out 3; have hfz11_4 := blk_frozen BK220.out 4; have hfz11_5 := blk_frozen BK220.out 5; have hfz11_6 := blk_frozen BK220.out 6; have hfz11_7 := blk_frozen BK220.out 7; have hfz11_8 := blk_frozen BK220.out 8; have hfz11_9 := blk_frozen BK220.out 9; have hfz11_10 := blk_frozen BK220.out 10) | ((with_reducible refine gate_callee (f := 76) rfl ?_); refine goesL_ (some 8) rfl rfl Try.func76 (by kernel_rfl) rfl #[.agg #[.int .i64 a0_0, .int .i64 a0_1, .int .i64 a0_2, .slice A0_3 l0_3.length c0_3], .int .i64 a1] rfl (by (try simp only [List.map_toArray, List.map_cons, List.map_nil]); first | done | rfl | (simp only [List.length_drop, List.length_take]; rfl)) ?_; (with_reducible refine (laws_szMeta.calls k a0_0 a0_1 a0_2 _ _ l0_3 a1 t221 _ ?side1 ?side2 A3.out).mono ?_); (case side1 => repeat (first | exact (Kd.C_below HR0_3.out HB.out) | (with_reducible refine Kd.C_alloc ?_ _) | (with_reducible refine Kd.C_drewN ?_ _) | (with_reducible refine Kd.C_drew ?_))); (case side2 => exact HC0_3.out); rintro e w12 ⟨rfl, hb⟩; refine ⟨_, rfl, ?_⟩; have n0_ := Aside0.mk (blk_below (g := gb220) (o := .cells #[.int .i64 a0_0, .int .i64 a0_1, .int .i64 a0_2, .slice A0_3 l0_3.length c0_3, .slice A0_4 l0_4.length c0_4, .slice A0_5 l0_5.length c0_5, .int .i64 a0_6, .slice A0_7 l0_7.length c0_7, .slice A0_8 l0_8.length c0_8, .slice A0_9 l0_9.length c0_9, .int .i64 a0_10] 72 (0, 0)) (by (with_reducible repeat (first | refine blk_drewN ?_ _ | refine blk_drew ?_ | refine blk_alloc ?_ _)); exact BK220.out) hb); have n1_ := Aside0.mk (below_step (by repeat (first | (with_reducible first | exact HB.out | apply below_alloc | apply pw_below_drewN | apply below_drew1 | refine below_set ?_ GE220.out) | exact HB.out)) hb); clear BK220; clear HB; have BK220 := n0_; have HB := n1_; clear n0_ n1_; (try clear hb); (try clear hb2); (try clear hk); (try clear hi); have hcz13_0 : w12.cell? ⟨gb220, 0, none⟩ = some (.int .i64 a0_0) := (blk_cell BK220.out 0).trans rfl; have hcz13_1 : w12.cell? ⟨gb220, 1, none⟩ = some (.int .i64 a0_1) := (blk_cell BK220.out 1).trans rfl; have hcz13_2 : w12.cell? ⟨gb220, 2, none⟩ = some (.int .i64 a0_2) := (blk_cell BK220.out 2).trans rfl; have hcz13_3 : w12.cell? ⟨gb220, 3, none⟩ = some (.slice A0_3 l0_3.length c0_3) := (blk_cell BK220.out 3).trans rfl; have hcz13_4 : w12.cell? ⟨gb220, 4, none⟩ = some (.slice A0_4 l0_4.length c0_4) := (blk_cell BK220.out 4).trans rfl; have hcz13_5 : w12.cell? ⟨gb220, 5, none⟩ = some (.slice A0_5 l0_5.length c0_5) := (blk_cell BK220.out 5).trans rfl; have hcz13_6 : w12.cell? ⟨gb220, 6, none⟩ = some (.int .i64 a0_6) := (blk_cell BK220.out 6).trans rfl; have hcz13_7 : w12.cell? ⟨gb220, 7, none⟩ = some (.slice A0_7 l0_7.length c0_7) := (blk_cell BK220.out 7).trans rfl; have hcz13_8 : w12.cell? ⟨gb220, 8, none⟩ = some (.slice A0_8 l0_8.length c0_8) := (blk_cell BK220.out 8).trans rfl; have hcz13_9 : w12.cell? ⟨gb220, 9, none⟩ = some (.slice A0_9 l0_9.length c0_9) := (blk_cell BK220.out 9).trans rfl; have hcz13_10 : w12.cell? ⟨gb220, 10, none⟩ = some (.int .i64 a0_10) := (blk_cell BK220.out 10).trans rfl; have hfz13_0 := blk_frozen BK220.out 0; have hfz13_1 := blk_frozen BK220.out 1; have hfz13_2 := blk_frozen BK220.out 2; have hfz13_3 := blk_frozen BK220.out 3; have hfz13_4 := blk_frozen BK220.out 4; have hfz13_5 := blk_frozen BK220.out 5; have hfz13_6 := blk_frozen BK220.out 6; have hfz13_7 := blk_frozen BK220.out 7; have hfz13_8 := blk_frozen BK220.out 8; have hfz13_9 := blk_frozen BK220.out 9; have hfz13_10 := blk_frozen BK220.out 10) | ((with_reducible refine gate_callee (f := 9) rfl ?_); refine goesL_ (some 14) rfl rfl Try.func9 (by kernel_rfl) rfl #[.agg #[.slice A0_4 l0_4.length c0_4, .slice A0_5 l0_5.length c0_5, .int .i64 a0_6, .slice A0_7 l0_7.length c0_7, .slice A0_8 l0_8.length c0_8, .slice A0_9 l0_9.length c0_9], .int .i64 t221] rfl (by (try simp only [List.map_toArray, List.map_cons, List.map_nil]); first | done | rfl | (simp only [List.length_drop, List.length_take]; rfl)) ?_; (with_reducible refine (laws_szWork.calls k _ _ l0_4 _ _ l0_5 a0_6 _ _ l0_7 _ _ l0_8 _ _ l0_9 t221 t222 _ ?side1 ?side2 ?side3 ?side4 ?side5 ?side6 ?side7 ?side8 ?side9 ?side10 A8.out).mono ?_); (case side1 => repeat (first | exact (Kd.C_below HR0_4.out HB.out) | (with_reducible refine Kd.C_alloc ?_ _) | (with_reducible refine Kd.C_drewN ?_ _) | (with_reducible refine Kd.C_drew ?_))); (case side2 => exact HC0_4.out); (case side3 => repeat (first | exact (Kd.C_below HR0_5.out HB.out) | (with_reducible refine Kd.C_alloc ?_ _) | (with_reducible refine Kd.C_drewN ?_ _) | (with_reducible refine Kd.C_drew ?_))); (case side4 => exact HC0_5.out); (case side5 => repeat (first | exact (Kd.C_below HR0_7.out HB.out) | (with_reducible refine Kd.C_alloc ?_ _) | (with_reducible refine Kd.C_drewN ?_ _) | (with_reducible refine Kd.C_drew ?_))); (case side6 => exact HC0_7.out); (case side7 => repeat (first | exact (Kd.C_below HR0_8.out HB.out) | (with_reducible refine Kd.C_alloc ?_ _) | (with_reducible refine Kd.C_drewN ?_ _) | (with_reducible refine Kd.C_drew ?_))); (case side8 => exact HC0_8.out); (case side9 => repeat (first | exact (Kd.C_below HR0_9.out HB.out) | (with_reducible refine Kd.C_alloc ?_ _) | (with_reducible refine Kd.C_drewN ?_ _) | (with_reducible refine Kd.C_drew ?_))); (case side10 => exact HC0_9.out); rintro e w14 ⟨rfl, hb⟩; refine ⟨_, rfl, ?_⟩; have n0_ := Aside0.mk (blk_below (g := gb220) (o := .cells #[.int .i64 a0_0, .int .i64 a0_1, .int .i64 a0_2, .slice A0_3 l0_3.length c0_3, .slice A0_4 l0_4.length c0_4, .slice A0_5 l0_5.length c0_5, .int .i64 a0_6, .slice A0_7 l0_7.length c0_7, .slice A0_8 l0_8.length c0_8, .slice A0_9 l0_9.length c0_9, .int .i64 a0_10] 72 (0, 0)) (by (with_reducible repeat (first | refine blk_drewN ?_ _ | refine blk_drew ?_ | refine blk_alloc ?_ _)); exact BK220.out) hb); have n1_ := Aside0.mk (below_step (by repeat (first | (with_reducible first | exact HB.out | apply below_alloc | apply pw_below_drewN | apply below_drew1 | refine below_set ?_ GE220.out) | exact HB.out)) hb); clear BK220; clear HB; have BK220 := n0_; have HB := n1_; clear n0_ n1_; (try clear hb); (try clear hb2); (try clear hk); (try clear hi)))
   go_ret
   exact ⟨by first | rfl | (simp [errW_none, errW_some] <;> rfl) | (simp [*, errW_none, errW_some] <;> rfl), by repeat (first | (with_reducible first | exact HB.out | apply below_alloc | apply pw_below_drewN | apply below_drew1 | refine below_set ?_ GE220.out) | exact HB.out)⟩
  ·rw [if_neg c9] at H
   have c9b0 : decide (t222 < 0) = false := decide_eq_false c9
   clear c9
   obtain rfl := Option.some.inj H
   go_enter Try.func37, Try.ntmps37
   go_wp2_with (first | ((with_reducible refine gate_dst (N := 2) rfl ?_); refine box_event ?hg (N := 2) ?hd (cs := #[.int .i64 a0_0, .int .i64 a0_1, .int .i64 a0_2, .slice A0_3 l0_3.length c0_3, .slice A0_4 l0_4.length c0_4, .slice A0_5 l0_5.length c0_5, .int .i64 a0_6, .slice A0_7 l0_7.length c0_7, .slice A0_8 l0_8.length c0_8, .slice A0_9 l0_9.length c0_9, .int .i64 a0_10]) (t := 72) ?hr ?_; (case hd => rfl); (case hg => rfl); (case hr => first | (go_simp; done) | (go_simp; rfl)); intro gb220 hg w15 hbox hb; have n0_ := Aside0.mk (below_step (by repeat (first | (with_reducible first | exact HB.out | apply below_alloc | apply pw_below_drewN | apply below_drew1) | exact HB.out)) hb); have n1_ := Aside0.mk (hbox); have n2_ := Aside0.mk ((by rw [hg]; exact (below_size (by repeat (first | (with_reducible first | exact HB.out | apply below_alloc | apply pw_below_drewN | apply below_drew1) | exact HB.out))) : w.heap.size ≤ gb220)); have n3_ := Aside0.mk ((by rw [hg]; exact (below_size (by repeat (first | (with_reducible first | exact HB.out | apply below_alloc | apply pw_below_drewN | apply below_drew1) | exact HB.out))) : w.heap.size ≤ gb220)); clear HB; have HB := n0_; have BK220 := n1_; have GW220 := n2_; have GE220 := n3_; clear n0_ n1_ n2_ n3_; clear hb hbox hg; have hcz16_0 : w15.cell? ⟨gb220, 0, none⟩ = some (.int .i64 a0_0) := (blk_cell BK220.out 0).trans rfl; have hcz16_1 : w15.cell? ⟨gb220, 1, none⟩ = some (.int .i64 a0_1) := (blk_cell BK220.out 1).trans rfl; have hcz16_2 : w15.cell? ⟨gb220, 2, none⟩ = some (.int .i64 a0_2) := (blk_cell BK220.out 2).trans rfl; have hcz16_3 : w15.cell? ⟨gb220, 3, none⟩ = some (.slice A0_3 l0_3.length c0_3) := (blk_cell BK220.out 3).trans rfl; have hcz16_4 : w15.cell? ⟨gb220, 4, none⟩ = some (.slice A0_4 l0_4.length c0_4) := (blk_cell BK220.out 4).trans rfl; have hcz16_5 : w15.cell? ⟨gb220, 5, none⟩ = some (.slice A0_5 l0_5.length c0_5) := (blk_cell BK220.out 5).trans rfl; have hcz16_6 : w15.cell? ⟨gb220, 6, none⟩ = some (.int .i64 a0_6) := (blk_cell BK220.out 6).trans rfl; have hcz16_7 : w15.cell? ⟨gb220, 7, none⟩ = some (.slice A0_7 l0_7.length c0_7) := (blk_cell BK220.out 7).trans rfl; have hcz16_8 : w15.cell? ⟨gb220, 8, none⟩ = some (.slice A0_8 l0_8.length c0_8) := (blk_cell BK220.out 8).trans rfl; have hcz16_9 : w15.cell? ⟨gb220, 9, none⟩ = some (.slice A0_9 l0_9.length c0_9) := (blk_cell BK220.out 9).trans rfl; have hcz16_10 : w15.cell? ⟨gb220, 10, none⟩ = some (.int .i64 a0_10) := (blk_cell BK220.out 10).trans rfl; have hfz16_0 := blk_frozen BK220.out 0; have hfz16_1 := blk_frozen BK220.out 1; have hfz16_2 := blk_frozen BK220.out 2; have hfz16_3 := blk_frozen BK220.out 3; have hfz16_4 := blk_frozen BK220.out 4; have hfz16_5 := blk_frozen BK220.out 5; have hfz16_6 := blk_frozen BK220.out 6; have hfz16_7 := blk_frozen BK220.out 7; have hfz16_8 := blk_frozen BK220.out 8; have hfz16_9 := blk_frozen BK220.out 9; have hfz16_10 := blk_frozen BK220.out 10) | ((with_reducible refine gate_callee (f := 76) rfl ?_); refine goesL_ (some 8) rfl rfl Try.func76 (by kernel_rfl) rfl #[.agg #[.int .i64 a0_0, .int .i64 a0_1, .int .i64 a0_2, .slice A0_3 l0_3.length c0_3], .int .i64 a1] rfl (by (try simp only [List.map_toArray, List.map_cons, List.map_nil]); first | done | rfl | (simp only [List.length_drop, List.length_take]; rfl)) ?_; (with_reducible refine (laws_szMeta.calls k a0_0 a0_1 a0_2 _ _ l0_3 a1 t221 _ ?side1 ?side2 A3.out).mono ?_); (case side1 => repeat (first | exact (Kd.C_below HR0_3.out HB.out) | (with_reducible refine Kd.C_alloc ?_ _) | (with_reducible refine Kd.C_drewN ?_ _) | (with_reducible refine Kd.C_drew ?_))); (case side2 => exact HC0_3.out); rintro e w17 ⟨rfl, hb⟩; refine ⟨_, rfl, ?_⟩; have n0_ := Aside0.mk (blk_below (g := gb220) (o := .cells #[.int .i64 a0_0, .int .i64 a0_1, .int .i64 a0_2, .slice A0_3 l0_3.length c0_3, .slice A0_4 l0_4.length c0_4, .slice A0_5 l0_5.length c0_5, .int .i64 a0_6, .slice A0_7 l0_7.length c0_7, .slice A0_8 l0_8.length c0_8, .slice A0_9 l0_9.length c0_9, .int .i64 a0_10] 72 (0, 0)) (by (with_reducible repeat (first | refine blk_drewN ?_ _ | refine blk_drew ?_ | refine blk_alloc ?_ _)); exact BK220.out) hb); have n1_ := Aside0.mk (below_step (by repeat (first | (with_reducible first | exact HB.out | apply below_alloc | apply pw_below_drewN | apply below_drew1 | refine below_set ?_ GE220.out) | exact HB.out)) hb); clear BK220; clear HB; have BK220 := n0_; have HB := n1_; clear n0_ n1_; (try clear hb); (try clear hb2); (try clear hk); (try clear hi); have hcz18_0 : w17.cell? ⟨gb220, 0, none⟩ = some (.int .i64 a0_0) := (blk_cell BK220.out 0).trans rfl; have hcz18_1 : w17.cell? ⟨gb220, 1, none⟩ = some (.int .i64 a0_1) := (blk_cell BK220.out 1).trans rfl; have hcz18_2 : w17.cell? ⟨gb220, 2, none⟩ = some (.int .i64 a0_2) := (blk_cell BK220.out 2).trans rfl; have hcz18_3 : w17.cell? ⟨gb220, 3, none⟩ = some (.slice A0_3 l0_3.length c0_3) := (blk_cell BK220.out 3).trans rfl; have hcz18_4 : w17.cell? ⟨gb220, 4, none⟩ = some (.slice A0_4 l0_4.length c0_4) := (blk_cell BK220.out 4).trans rfl; have hcz18_5 : w17.cell? ⟨gb220, 5, none⟩ = some (.slice A0_5 l0_5.length c0_5) := (blk_cell BK220.out 5).trans rfl; have hcz18_6 : w17.cell? ⟨gb220, 6, none⟩ = some (.int .i64 a0_6) := (blk_cell BK220.out 6).trans rfl; have hcz18_7 : w17.cell? ⟨gb220, 7, none⟩ = some (.slice A0_7 l0_7.length c0_7) := (blk_cell BK220.out 7).trans rfl; have hcz18_8 : w17.cell? ⟨gb220, 8, none⟩ = some (.slice A0_8 l0_8.length c0_8) := (blk_cell BK220.out 8).trans rfl; have hcz18_9 : w17.cell? ⟨gb220, 9, none⟩ = some (.slice A0_9 l0_9.length c0_9) := (blk_cell BK220.out 9).trans rfl; have hcz18_10 : w17.cell? ⟨gb220, 10, none⟩ = some (.int .i64 a0_10) := (blk_cell BK220.out 10).trans rfl; have hfz18_0 := blk_frozen BK220.out 0; have hfz18_1 := blk_frozen BK220.out 1; have hfz18_2 := blk_frozen BK220.out 2; have hfz18_3 := blk_frozen BK220.out 3; have hfz18_4 := blk_frozen BK220.out 4; have hfz18_5 := blk_frozen BK220.out 5; have hfz18_6 := blk_frozen BK220.out 6; have hfz18_7 := blk_frozen BK220.out 7; have hfz18_8 := blk_frozen BK220.out 8; have hfz18_9 := blk_frozen BK220.out 9; have hfz18_10 := blk_frozen BK220.out 10) | ((with_reducible refine gate_callee (f := 9) rfl ?_); refine goesL_ (some 14) rfl rfl Try.func9 (by kernel_rfl) rfl #[.agg #[.slice A0_4 l0_4.length c0_4, .slice A0_5 l0_5.length c0_5, .int .i64 a0_6, .slice A0_7 l0_7.length c0_7, .slice A0_8 l0_8.length c0_8, .slice A0_9 l0_9.length c0_9], .int .i64 t221] rfl (by (try simp only [List.map_toArray, List.map_cons, List.map_nil]); first | done | rfl | (simp only [List.length_drop, List.length_take]; rfl)) ?_; (with_reducible refine (laws_szWork.calls k _ _ l0_4 _ _ l0_5 a0_6 _ _ l0_7 _ _ l0_8 _ _ l0_9 t221 t222 _ ?side1 ?side2 ?side3 ?side4 ?side5 ?side6 ?side7 ?side8 ?side9 ?side10 A8.out).mono ?_); (case side1 => repeat (first | exact (Kd.C_below HR0_4.out HB.out) | (with_reducible refine Kd.C_alloc ?_ _) | (with_reducible refine Kd.C_drewN ?_ _) | (with_reducible refine Kd.C_drew ?_))); (case side2 => exact HC0_4.out); (case side3 => repeat (first | exact (Kd.C_below HR0_5.out HB.out) | (with_reducible refine Kd.C_alloc ?_ _) | (with_reducible refine Kd.C_drewN ?_ _) | (with_reducible refine Kd.C_drew ?_))); (case side4 => exact HC0_5.out); (case side5 => repeat (first | exact (Kd.C_below HR0_7.out HB.out) | (with_reducible refine Kd.C_alloc ?_ _) | (with_reducible refine Kd.C_drewN ?_ _) | (with_reducible refine Kd.C_drew ?_))); (case side6 => exact HC0_7.out); (case side7 => repeat (first | exact (Kd.C_below HR0_8.out HB.out) | (with_reducible refine Kd.C_alloc ?_ _) | (with_reducible refine Kd.C_drewN ?_ _) | (with_reducible refine Kd.C_drew ?_))); (case side8 => exact HC0_8.out); (case side9 => repeat (first | exact (Kd.C_below HR0_9.out HB.out) | (with_reducible refine Kd.C_alloc ?_ _) | (with_reducible refine Kd.C_drewN ?_ _) | (with_reducible refine Kd.C_drew ?_))); (case side10 => exact HC0_9.out); rintro e w19 ⟨rfl, hb⟩; refine ⟨_, rfl, ?_⟩; have n0_ := Aside0.mk (blk_below (g := gb220) (o := .cells #[.int .i64 a0_0, .int .i64 a0_1, .int .i64 a0_2, .slice A0_3 l0_3.length c0_3, .slice A0_4 l0_4.length c0_4, .slice A0_5 l0_5.length c0_5, .int .i64 a0_6, .slice A0_7 l0_7.length c0_7, .slice A0_8 l0_8.length c0_8, .slice A0_9 l0_9.length c0_9, .int .i64 a0_10] 72 (0, 0)) (by (with_reducible repeat (first | refine blk_drewN ?_ _ | refine blk_drew ?_ | refine blk_alloc ?_ _)); exact BK220.out) hb); have n1_ := Aside0.mk (below_step (by repeat (first | (with_reducible first | exact HB.out | apply below_alloc | apply pw_below_drewN | apply below_drew1 | refine below_set ?_ GE220.out) | exact HB.out)) hb); clear BK220; clear HB; have BK220 := n0_; have HB := n1_; clear n0_ n1_; (try clear hb); (try clear hb2); (try clear hk); (try clear hi)))
   go_ret
   exact ⟨by first | rfl | (simp [errW_none, errW_some] <;> rfl) | (simp [*, errW_none, errW_some] <;> rfl), by repeat (first | (with_reducible first | exact HB.out | apply below_alloc | apply pw_below_drewN | apply below_drew1 | refine below_set ?_ GE220.out) | exact HB.out)⟩
def laws_szReader.f (k : Nat) (a0_0 : Int) (a0_1 : Int) (a0_2 : Int) (a0_3 : Int) (l0_4 : List (S183)) (a1 : Int) : Option (Int) := (laws_szMeta.f k a0_1 a0_2 a0_3 l0_4 a1).bind fun t224 => (if t224 < 0 then (some (-1)) else (some t224))
theorem laws_szReader.calls (k : Nat) (a0_0 : Int) (a0_1 : Int) (a0_2 : Int) (a0_3 : Int) (A0_4 : Option Addr) (c0_4 : Nat) (l0_4 : List (S183)) (a1 : Int) (r : Int) (w : World) (hr0_4 : Kd.C k183 w A0_4 l0_4.length l0_4) (hc0_4 : l0_4.length ≤ c0_4) (h : laws_szReader.f k a0_0 a0_1 a0_2 a0_3 l0_4 a1 = some r) :
  Calls Try.prog 131 #[.agg #[.int .i64 a0_0, .int .i64 a0_1, .int .i64 a0_2, .int .i64 a0_3, .slice A0_4 l0_4.length c0_4], .int .i64 a1] w fun e w' => e = .returned (.int .i64 r) ∧ Below w.heap.size w w' := by
 have hu154 := Try.underlying154
 have hu69 := Try.underlying69
 have HR0_4 := Aside0.mk hr0_4
 have HC0_4 := Aside0.mk hc0_4
 clear hr0_4 hc0_4
 have HB := Aside0.mk (Below.refl w.heap.size w)
 have H : ((laws_szMeta.f k a0_1 a0_2 a0_3 l0_4 a1).bind fun t224 => (if t224 < 0 then (some (-1)) else (some t224))) = some r := h
 clear h
 replace H := Option.bind_eq_some_iff.mp H
 obtain ⟨t224, A30, H⟩ := H
 replace H : (if t224 < 0 then (some (-1)) else (some t224)) = some r := H
 have A3 := Aside0.mk A30
 clear A30
 by_cases c4 : t224 < 0
 ·rw [if_pos c4] at H
  have c4b0 : decide (t224 < 0) = true := decide_eq_true c4
  clear c4
  obtain rfl := Option.some.inj H
  go_enter Try.func131, Try.ntmps131
  go_wp2_with (first | ((with_reducible refine gate_dst (N := 2) rfl ?_); refine box_event ?hg (N := 2) ?hd (cs := #[.int .i64 a0_0, .int .i64 a0_1, .int .i64 a0_2, .int .i64 a0_3, .slice A0_4 l0_4.length c0_4]) (t := 154) ?hr ?_; (case hd => rfl); (case hg => rfl); (case hr => first | (go_simp; done) | (go_simp; rfl)); intro gb223 hg w5 hbox hb; have n0_ := Aside0.mk (below_step (by repeat (first | (with_reducible first | exact HB.out | apply below_alloc | apply pw_below_drewN | apply below_drew1) | exact HB.out)) hb); have n1_ := Aside0.mk (hbox); have n2_ := Aside0.mk ((by rw [hg]; exact (below_size (by repeat (first | (with_reducible first | exact HB.out | apply below_alloc | apply pw_below_drewN | apply below_drew1) | exact HB.out))) : w.heap.size ≤ gb223)); have n3_ := Aside0.mk ((by rw [hg]; exact (below_size (by repeat (first | (with_reducible first | exact HB.out | apply below_alloc | apply pw_below_drewN | apply below_drew1) | exact HB.out))) : w.heap.size ≤ gb223)); clear HB; have HB := n0_; have BK223 := n1_; have GW223 := n2_; have GE223 := n3_; clear n0_ n1_ n2_ n3_; clear hb hbox hg; have hcz6_0 : w5.cell? ⟨gb223, 0, none⟩ = some (.int .i64 a0_0) := (blk_cell BK223.out 0).trans rfl; have hcz6_1 : w5.cell? ⟨gb223, 1, none⟩ = some (.int .i64 a0_1) := (blk_cell BK223.out 1).trans rfl; have hcz6_2 : w5.cell? ⟨gb223, 2, none⟩ = some (.int .i64 a0_2) := (blk_cell BK223.out 2).trans rfl; have hcz6_3 : w5.cell? ⟨gb223, 3, none⟩ = some (.int .i64 a0_3) := (blk_cell BK223.out 3).trans rfl; have hcz6_4 : w5.cell? ⟨gb223, 4, none⟩ = some (.slice A0_4 l0_4.length c0_4) := (blk_cell BK223.out 4).trans rfl; have hfz6_0 := blk_frozen BK223.out 0; have hfz6_1 := blk_frozen BK223.out 1; have hfz6_2 := blk_frozen BK223.out 2; have hfz6_3 := blk_frozen BK223.out 3; have hfz6_4 := blk_frozen BK223.out 4) | ((with_reducible refine gate_callee (f := 76) rfl ?_); refine goesL_ (some 8) rfl rfl Try.func76 (by kernel_rfl) rfl #[.agg #[.int .i64 a0_1, .int .i64 a0_2, .int .i64 a0_3, .slice A0_4 l0_4.length c0_4], .int .i64 a1] rfl (by (try simp only [List.map_toArray, List.map_cons, List.map_nil]); first | done | rfl | (simp only [List.length_drop, List.length_take]; rfl)) ?_; (with_reducible refine (laws_szMeta.calls k a0_1 a0_2 a0_3 _ _ l0_4 a1 t224 _ ?side1 ?side2 A3.out).mono ?_); (case side1 => repeat (first | exact (Kd.C_below HR0_4.out HB.out) | (with_reducible refine Kd.C_alloc ?_ _) | (with_reducible refine Kd.C_drewN ?_ _) | (with_reducible refine Kd.C_drew ?_))); (case side2 => exact HC0_4.out); rintro e w7 ⟨rfl, hb⟩; refine ⟨_, rfl, ?_⟩; have n0_ := Aside0.mk (blk_below (g := gb223) (o := .cells #[.int .i64 a0_0, .int .i64 a0_1, .int .i64 a0_2, .int .i64 a0_3, .slice A0_4 l0_4.length c0_4] 154 (0, 0)) (by (with_reducible repeat (first | refine blk_drewN ?_ _ | refine blk_drew ?_ | refine blk_alloc ?_ _)); exact BK223.out) hb); have n1_ := Aside0.mk (below_step (by repeat (first | (with_reducible first | exact HB.out | apply below_alloc | apply pw_below_drewN | apply below_drew1 | refine below_set ?_ GE223.out) | exact HB.out)) hb); clear BK223; clear HB; have BK223 := n0_; have HB := n1_; clear n0_ n1_; (try clear hb); (try clear hb2); (try clear hk); (try clear hi)))
  go_ret
  exact ⟨by first | rfl | (simp [errW_none, errW_some] <;> rfl) | (simp [*, errW_none, errW_some] <;> rfl), by repeat (first | (with_reducible first | exact HB.out | apply below_alloc | apply pw_below_drewN | apply below_drew1 | refine below_set ?_ GE223.out) | exact HB.out)⟩
 ·rw [if_neg c4] at H
  have c4b0 : decide (t224 < 0) = false := decide_eq_false c4
  clear c4
  obtain rfl := Option.some.inj H
  go_enter Try.func131, Try.ntmps131
  go_wp2_with (first | ((with_reducible refine gate_dst (N := 2) rfl ?_); refine box_event ?hg (N := 2) ?hd (cs := #[.int .i64 a0_0, .int .i64 a0_1, .int .i64 a0_2, .int .i64 a0_3, .slice A0_4 l0_4.length c0_4]) (t := 154) ?hr ?_; (case hd => rfl); (case hg => rfl); (case hr => first | (go_simp; done) | (go_simp; rfl)); intro gb223 hg w8 hbox hb; have n0_ := Aside0.mk (below_step (by repeat (first | (with_reducible first | exact HB.out | apply below_alloc | apply pw_below_drewN | apply below_drew1) | exact HB.out)) hb); have n1_ := Aside0.mk (hbox); have n2_ := Aside0.mk ((by rw [hg]; exact (below_size (by repeat (first | (with_reducible first | exact HB.out | apply below_alloc | apply pw_below_drewN | apply below_drew1) | exact HB.out))) : w.heap.size ≤ gb223)); have n3_ := Aside0.mk ((by rw [hg]; exact (below_size (by repeat (first | (with_reducible first | exact HB.out | apply below_alloc | apply pw_below_drewN | apply below_drew1) | exact HB.out))) : w.heap.size ≤ gb223)); clear HB; have HB := n0_; have BK223 := n1_; have GW223 := n2_; have GE223 := n3_; clear n0_ n1_ n2_ n3_; clear hb hbox hg; have hcz9_0 : w8.cell? ⟨gb223, 0, none⟩ = some (.int .i64 a0_0) := (blk_cell BK223.out 0).trans rfl; have hcz9_1 : w8.cell? ⟨gb223, 1, none⟩ = some (.int .i64 a0_1) := (blk_cell BK223.out 1).trans rfl; have hcz9_2 : w8.cell? ⟨gb223, 2, none⟩ = some (.int .i64 a0_2) := (blk_cell BK223.out 2).trans rfl; have hcz9_3 : w8.cell? ⟨gb223, 3, none⟩ = some (.int .i64 a0_3) := (blk_cell BK223.out 3).trans rfl; have hcz9_4 : w8.cell? ⟨gb223, 4, none⟩ = some (.slice A0_4 l0_4.length c0_4) := (blk_cell BK223.out 4).trans rfl; have hfz9_0 := blk_frozen BK223.out 0; have hfz9_1 := blk_frozen BK223.out 1; have hfz9_2 := blk_frozen BK223.out 2; have hfz9_3 := blk_frozen BK223.out 3; have hfz9_4 := blk_frozen BK223.out 4) | ((with_reducible refine gate_callee (f := 76) rfl ?_); refine goesL_ (some 8) rfl rfl Try.func76 (by kernel_rfl) rfl #[.agg #[.int .i64 a0_1, .int .i64 a0_2, .int .i64 a0_3, .slice A0_4 l0_4.length c0_4], .int .i64 a1] rfl (by (try simp only [List.map_toArray, List.map_cons, List.map_nil]); first | done | rfl | (simp only [List.length_drop, List.length_take]; rfl)) ?_; (with_reducible refine (laws_szMeta.calls k a0_1 a0_2 a0_3 _ _ l0_4 a1 t224 _ ?side1 ?side2 A3.out).mono ?_); (case side1 => repeat (first | exact (Kd.C_below HR0_4.out HB.out) | (with_reducible refine Kd.C_alloc ?_ _) | (with_reducible refine Kd.C_drewN ?_ _) | (with_reducible refine Kd.C_drew ?_))); (case side2 => exact HC0_4.out); rintro e w10 ⟨rfl, hb⟩; refine ⟨_, rfl, ?_⟩; have n0_ := Aside0.mk (blk_below (g := gb223) (o := .cells #[.int .i64 a0_0, .int .i64 a0_1, .int .i64 a0_2, .int .i64 a0_3, .slice A0_4 l0_4.length c0_4] 154 (0, 0)) (by (with_reducible repeat (first | refine blk_drewN ?_ _ | refine blk_drew ?_ | refine blk_alloc ?_ _)); exact BK223.out) hb); have n1_ := Aside0.mk (below_step (by repeat (first | (with_reducible first | exact HB.out | apply below_alloc | apply pw_below_drewN | apply below_drew1 | refine below_set ?_ GE223.out) | exact HB.out)) hb); clear BK223; clear HB; have BK223 := n0_; have HB := n1_; clear n0_ n1_; (try clear hb); (try clear hb2); (try clear hk); (try clear hi)))
  go_ret
  exact ⟨by first | rfl | (simp [errW_none, errW_some] <;> rfl) | (simp [*, errW_none, errW_some] <;> rfl), by repeat (first | (with_reducible first | exact HB.out | apply below_alloc | apply pw_below_drewN | apply below_drew1 | refine below_set ?_ GE223.out) | exact HB.out)⟩
def laws_szReaderS.l0 : Nat → List (S154) → Int → Int → Option (Int)
 | 0, _, _, _ => none
 | k + 1, x0, x1, x5 => if x5 < (x0.length : Int) then (if 0 ≤ x5 then ((laws_szReader.f k ((rd_T154 x0 x5).f0) ((rd_T154 x0 x5).f1.f0) ((rd_T154 x0 x5).f1.f1) ((rd_T154 x0 x5).f1.f2) ((rd_T154 x0 x5).f1.f3) x1).bind fun t226 => (if t226 < 0 then (some (-1)) else (laws_szReaderS.l0 k x0 t226 (wrap64 (x5 + 1))))) else (none)) else (some x1)
def laws_szReaderS.f (k : Nat) (l0 : List (S154)) (a1 : Int) : Option (Int) := if (wrap64 (a1 - (l0.length : Int))) < 0 then (some (-1)) else (laws_szReaderS.l0 k l0 (wrap64 (a1 - (l0.length : Int))) 0)
theorem laws_szReaderS.calls (k : Nat) (A0 : Option Addr) (c0 : Nat) (l0 : List (S154)) (a1 : Int) (r : Int) (w : World) (hr0 : Kd.C k154 w A0 l0.length l0) (hc0 : l0.length ≤ c0) (h : laws_szReaderS.f k l0 a1 = some r) :
  Calls Try.prog 77 #[.slice A0 l0.length c0, .int .i64 a1] w fun e w' => e = .returned (.int .i64 r) ∧ Below w.heap.size w w' := by
 have hu154 := Try.underlying154
 have HR0 := Aside0.mk hr0
 have HC0 := Aside0.mk hc0
 clear hr0 hc0
 have HB := Aside0.mk (Below.refl w.heap.size w)
 have H : (if (wrap64 (a1 - (l0.length : Int))) < 0 then (some (-1)) else (laws_szReaderS.l0 k l0 (wrap64 (a1 - (l0.length : Int))) 0)) = some r := h
 clear h
 by_cases c3 : (wrap64 (a1 - (l0.length : Int))) < 0
 ·rw [if_pos c3] at H
  have c3b0 : decide ((wrap64 (a1 - (l0.length : Int))) < 0) = true := decide_eq_true c3
  clear c3
  obtain rfl := Option.some.inj H
  go_enter Try.func77, Try.ntmps77
  go_wp2
  go_ret
  exact ⟨by first | rfl | (simp [errW_none, errW_some] <;> rfl) | (simp [*, errW_none, errW_some] <;> rfl), by repeat (first | (with_reducible first | exact HB.out | apply below_alloc | apply pw_below_drewN | apply below_drew1) | exact HB.out)⟩
 ·rw [if_neg c3] at H
  have c3b0 : decide ((wrap64 (a1 - (l0.length : Int))) < 0) = false := decide_eq_false c3
  clear c3
  have H' := Aside0.mk H
  clear H
  go_enter Try.func77, Try.ntmps77
  go_wp2
  go_loopg [1, 5] k (fun kq v1 v5 w' => ∃ (x1_1 : Int) (x5_1 : Int), v1 = .int .i64 x1_1 ∧ v5 = .int .i64 x5_1 ∧ Aside0 (laws_szReaderS.l0 kq l0 x1_1 x5_1 = some r) ∧ Aside0 (kq ≤ k) ∧ Aside0 (Below w.heap.size w w'))
  case atStart => exact ⟨(wrap64 (a1 - (l0.length : Int))), (0), (by first | rfl | (simp; done) | (simp [*]; done)), (by first | rfl | (simp; done) | (simp [*]; done)), H', ⟨Nat.le_refl _⟩, ⟨by repeat (first | (with_reducible first | exact HB.out | apply below_alloc | apply pw_below_drewN | apply below_drew1) | exact HB.out)⟩⟩
  case round =>
   clear H'
   try clear c3
   try clear c3b0
   obtain ⟨x1_1, x5_1, rfl, rfl, HA, HK1, HB⟩ := hrel
   cases gk with
   | zero => exact absurd HA.out (by simp [laws_szReaderS.l0])
   | succ k1 =>
    have H := HA.out
    clear HA
    simp only [laws_szReaderS.l0] at H
    by_cases c4 : x5_1 < (l0.length : Int)
    ·rw [if_pos c4] at H
     have c4b0 : decide (x5_1 < (l0.length : Int)) = true := decide_eq_true c4
     clear c4
     by_cases c5 : 0 ≤ x5_1
     ·rw [if_pos c5] at H
      have c5b0 : decide (0 ≤ x5_1) = true := decide_eq_true c5
      clear c5
      replace H := Option.bind_eq_some_iff.mp H
      obtain ⟨t226, A60, H⟩ := H
      replace H : (if t226 < 0 then (some (-1)) else (laws_szReaderS.l0 k1 l0 t226 (wrap64 (x5_1 + 1)))) = some r := H
      have A6 := Aside0.mk A60
      clear A60
      by_cases c7 : t226 < 0
      ·rw [if_pos c7] at H
       have c7b0 : decide (t226 < 0) = true := decide_eq_true c7
       clear c7
       obtain rfl := Option.some.inj H
       have p225 : 0 ≤ (x5_1 : Int) := of_decide_eq_true (by with_reducible assumption)
       have q225 : x5_1 < (l0.length : Int) := of_decide_eq_true (by with_reducible assumption)
       obtain ⟨ad225, A225_4, c225_4, e225, hx225_0, hx225_1, hx225_2, hx225_3, hx225_4, hl225_4, hi225_4⟩ := at_T154 HR0.out x5_1 p225 q225
       cases e225
       replace hx225_0 := (HB.out.cell (World.block_lt_of_cell? w _ hx225_0)).trans hx225_0
       replace hx225_1 := (HB.out.cell (World.block_lt_of_cell? w _ hx225_1)).trans hx225_1
       replace hx225_2 := (HB.out.cell (World.block_lt_of_cell? w _ hx225_2)).trans hx225_2
       replace hx225_3 := (HB.out.cell (World.block_lt_of_cell? w _ hx225_3)).trans hx225_3
       replace hx225_4 := (HB.out.cell (World.block_lt_of_cell? w _ hx225_4)).trans hx225_4
       have HR225_4 := Aside0.mk hi225_4
       have HC225_4 := Aside0.mk hl225_4
       clear hi225_4 hl225_4
       replace p225 := eq_true p225
       replace q225 := eq_true q225
       go_wp2_with (first | ((with_reducible refine gate_callee (f := 131) rfl ?_); refine goesL_ (some 23) rfl rfl Try.func131 (by kernel_rfl) rfl #[.agg #[.int .i64 ((rd_T154 l0 x5_1).f0), .int .i64 ((rd_T154 l0 x5_1).f1.f0), .int .i64 ((rd_T154 l0 x5_1).f1.f1), .int .i64 ((rd_T154 l0 x5_1).f1.f2), .slice A225_4 ((rd_T154 l0 x5_1).f1.f3).length c225_4], .int .i64 x1_1] rfl (by (try simp only [List.map_toArray, List.map_cons, List.map_nil]); first | done | rfl | (simp only [List.length_drop, List.length_take]; rfl)) ?_; (with_reducible refine (laws_szReader.calls k1 ((rd_T154 l0 x5_1).f0) ((rd_T154 l0 x5_1).f1.f0) ((rd_T154 l0 x5_1).f1.f1) ((rd_T154 l0 x5_1).f1.f2) _ _ ((rd_T154 l0 x5_1).f1.f3) x1_1 t226 _ ?side1 ?side2 A6.out).mono ?_); (case side1 => repeat (first | exact (Kd.C_below HR225_4.out HB.out) | (with_reducible refine Kd.C_alloc ?_ _) | (with_reducible refine Kd.C_drewN ?_ _) | (with_reducible refine Kd.C_drew ?_))); (case side2 => exact HC225_4.out); rintro e w8 ⟨rfl, hb⟩; refine ⟨_, rfl, ?_⟩; have n0_ := Aside0.mk (below_step (by repeat (first | (with_reducible first | exact HB.out | apply below_alloc | apply pw_below_drewN | apply below_drew1) | exact HB.out)) hb); clear HB; have HB := n0_; clear n0_; (try clear hb); (try clear hb2); (try clear hk); (try clear hi)))
       go_ret
       exact ⟨by first | rfl | (simp [errW_none, errW_some] <;> rfl) | (simp [*, errW_none, errW_some] <;> rfl), by repeat (first | (with_reducible first | exact HB.out | apply below_alloc | apply pw_below_drewN | apply below_drew1) | exact HB.out)⟩
      ·rw [if_neg c7] at H
       have c7b0 : decide (t226 < 0) = false := decide_eq_false c7
       clear c7
       have H' := Aside0.mk H
       clear H
       have p225 : 0 ≤ (x5_1 : Int) := of_decide_eq_true (by with_reducible assumption)
       have q225 : x5_1 < (l0.length : Int) := of_decide_eq_true (by with_reducible assumption)
       obtain ⟨ad225, A225_4, c225_4, e225, hx225_0, hx225_1, hx225_2, hx225_3, hx225_4, hl225_4, hi225_4⟩ := at_T154 HR0.out x5_1 p225 q225
       cases e225
       replace hx225_0 := (HB.out.cell (World.block_lt_of_cell? w _ hx225_0)).trans hx225_0
       replace hx225_1 := (HB.out.cell (World.block_lt_of_cell? w _ hx225_1)).trans hx225_1
       replace hx225_2 := (HB.out.cell (World.block_lt_of_cell? w _ hx225_2)).trans hx225_2
       replace hx225_3 := (HB.out.cell (World.block_lt_of_cell? w _ hx225_3)).trans hx225_3
       replace hx225_4 := (HB.out.cell (World.block_lt_of_cell? w _ hx225_4)).trans hx225_4
       have HR225_4 := Aside0.mk hi225_4
       have HC225_4 := Aside0.mk hl225_4
       clear hi225_4 hl225_4
       replace p225 := eq_true p225
       replace q225 := eq_true q225
       go_wp2_with (first | ((with_reducible refine gate_callee (f := 131) rfl ?_); refine goesL_ (some 23) rfl rfl Try.func131 (by kernel_rfl) rfl #[.agg #[.int .i64 ((rd_T154 l0 x5_1).f0), .int .i64 ((rd_T154 l0 x5_1).f1.f0), .int .i64 ((rd_T154 l0 x5_1).f1.f1), .int .i64 ((rd_T154 l0 x5_1).f1.f2), .slice A225_4 ((rd_T154 l0 x5_1).f1.f3).length c225_4], .int .i64 x1_1] rfl (by (try simp only [List.map_toArray, List.map_cons, List.map_nil]); first | done | rfl | (simp only [List.length_drop, List.length_take]; rfl)) ?_; (with_reducible refine (laws_szReader.calls k1 ((rd_T154 l0 x5_1).f0) ((rd_T154 l0 x5_1).f1.f0) ((rd_T154 l0 x5_1).f1.f1) ((rd_T154 l0 x5_1).f1.f2) _ _ ((rd_T154 l0 x5_1).f1.f3) x1_1 t226 _ ?side1 ?side2 A6.out).mono ?_); (case side1 => repeat (first | exact (Kd.C_below HR225_4.out HB.out) | (with_reducible refine Kd.C_alloc ?_ _) | (with_reducible refine Kd.C_drewN ?_ _) | (with_reducible refine Kd.C_drew ?_))); (case side2 => exact HC225_4.out); rintro e w9 ⟨rfl, hb⟩; refine ⟨_, rfl, ?_⟩; have n0_ := Aside0.mk (below_step (by repeat (first | (with_reducible first | exact HB.out | apply below_alloc | apply pw_below_drewN | apply below_drew1) | exact HB.out)) hb); clear HB; have HB := n0_; clear n0_; (try clear hb); (try clear hb2); (try clear hk); (try clear hi)))
       go_roundg k1
       case measure => have := HK1.out; omega
       case rel => exact ⟨(t226), (wrap64 (x5_1 + 1)), (by first | rfl | (simp; done) | (simp [*]; done)), (by first | rfl | (simp; done) | (simp [*]; done)), H', ⟨by have := HK1.out; omega⟩, ⟨by repeat (first | (with_reducible first | exact HB.out | apply below_alloc | apply pw_below_drewN | apply below_drew1) | exact HB.out)⟩⟩
     ·rw [if_neg c5] at H
      exact absurd H (by simp)
    ·rw [if_neg c4] at H
     have c4b0 : decide (x5_1 < (l0.length : Int)) = false := decide_eq_false c4
     clear c4
     obtain rfl := Option.some.inj H
     go_wp2
     go_ret
     exact ⟨by first | rfl | (simp [errW_none, errW_some] <;> rfl) | (simp [*, errW_none, errW_some] <;> rfl), by repeat (first | (with_reducible first | exact HB.out | apply below_alloc | apply pw_below_drewN | apply below_drew1) | exact HB.out)⟩
end Go.Proofs.Ytonhdiemjgdcnaa.PFnExactGivePage
