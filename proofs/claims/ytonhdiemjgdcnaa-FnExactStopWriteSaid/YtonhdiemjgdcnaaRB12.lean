import Derived.Test.YtonhdiemjgdcnaaRB11
import Derived.ProofKit
import Derived.OpenShut
import Derived.Deep.Slices
import Derived.ShutString
import Derived.ChangeOld
set_option maxHeartbeats 64000000
set_option maxRecDepth 100000
set_option linter.unusedVariables false
set_option linter.unusedSimpArgs false
namespace Go.Proofs.Ytonhdiemjgdcnaa.PFnExactGivePage
open Go.RowKit Go.Proofs.YtonhdiemjgdcnaaW.PrintWords Go.Proofs.YtonhdiemjgdcnaaW.PrintLast Go.Proofs.YtonhdiemjgdcnaaW.PrintMore
attribute [local go_sem] max2_int min2_int max_two min_two max_three min_three max_four min_four
def szDisk_c_f (k : Nat) (z0 : (List ByteArray × List S140)) (a : Int) : Option Int := laws_szDisk.f k z0.1 z0.2 a
theorem szDisk_c (k : Nat) (z0 : (List ByteArray × List S140)) {cs0 : List Value} (a : Int) (r : Int) (w : World) (h0 : kDiskL.K w z0 cs0) (hf : szDisk_c_f k z0 a = some r) :
  Calls Try.prog 22 #[.agg cs0.toArray, .int .i64 a] w fun e w' => e = .returned (.int .i64 r) ∧ Below w.heap.size w w' := by
 obtain ⟨p_0, q_0⟩ := z0
 obtain ⟨A_00, c_00, A_01, c_01, rfl, m_00, r_00, m_01, r_01⟩ := kDiskL_open h0
 exact laws_szDisk.calls k A_00 c_00 p_0 A_01 c_01 q_0 a r w r_00 m_00 r_01 m_01 hf
def szMeta_c_f (k : Nat) (z0 : S69) (a : Int) : Option Int := laws_szMeta.f k z0.f0 z0.f1 z0.f2 z0.f3 a
theorem szMeta_c (k : Nat) (z0 : S69) {cs0 : List Value} (a : Int) (r : Int) (w : World) (h0 : k69.K w z0 cs0) (hf : szMeta_c_f k z0 a = some r) :
  Calls Try.prog 76 #[.agg cs0.toArray, .int .i64 a] w fun e w' => e = .returned (.int .i64 r) ∧ Below w.heap.size w w' := by
 obtain ⟨x_0, rfl⟩ : ∃ x, x = z0 := ⟨_, rfl⟩
 obtain ⟨A_0, c_0, rfl, m_0, r_0⟩ := k69_open h0
 exact laws_szMeta.calls k x_0.f0 x_0.f1 x_0.f2 A_0 c_0 x_0.f3 a r w r_0 m_0 hf
def szTxn_c_f (k : Nat) (z0 : (S69 × (List ByteArray × List S140 × Int × List Int × List Int × List Int) × Int)) (a : Int) : Option Int := laws_szTxn.f k z0.1.f0 z0.1.f1 z0.1.f2 z0.1.f3 z0.2.1.1 z0.2.1.2.1 z0.2.1.2.2.1 z0.2.1.2.2.2.1 z0.2.1.2.2.2.2.1 z0.2.1.2.2.2.2.2 z0.2.2 a
theorem szTxn_c (k : Nat) (z0 : (S69 × (List ByteArray × List S140 × Int × List Int × List Int × List Int) × Int)) {cs0 : List Value} (a : Int) (r : Int) (w : World) (h0 : kTxnL.K w z0 cs0) (hf : szTxn_c_f k z0 a = some r) :
  Calls Try.prog 37 #[.agg cs0.toArray, .int .i64 a] w fun e w' => e = .returned (.int .i64 r) ∧ Below w.heap.size w w' := by
 obtain ⟨y_0, ⟨l_00, l_01, l_02, l_03, l_04, l_05⟩, n_0⟩ := z0
 obtain ⟨u_00_, _, rfl, g_00, u_01_, u_02_, rfl, g_01, g_02⟩ := h0
 obtain ⟨A_00, c_00, rfl, m_00, r_00⟩ := k69_open g_00
 obtain ⟨A_010, c_010, A_011, c_011, A_013, c_013, A_014, c_014, A_015, c_015, rfl, m_010, r_010, m_011, r_011, m_013, r_013, m_014, r_014, m_015, r_015⟩ := kWorkL_open g_01
 obtain rfl : u_02_ = [.int .i64 n_0] := g_02
 exact laws_szTxn.calls k y_0.f0 y_0.f1 y_0.f2 A_00 c_00 y_0.f3 A_010 c_010 l_00 A_011 c_011 l_01 l_02 A_013 c_013 l_03 A_014 c_014 l_04 A_015 c_015 l_05 n_0 a r w r_00 m_00 r_010 m_010 r_011 m_011 r_013 m_013 r_014 m_014 r_015 m_015 hf
theorem szReaders_c (k : Nat) (z : List S154) (a r : Int) {v : Value} (w : World) (h : (Own.srow 154 k154).K w z [v]) (hf : laws_szReaderS.f k z a = some r) :
  Calls Try.prog 77 #[v, .int .i64 a] w fun e w' => e = .returned (.int .i64 r) ∧ Below w.heap.size w w' := by
 obtain ⟨A, c, hv, m, rr⟩ := h
 injection hv with hv
 subst hv
 exact laws_szReaderS.calls k A c z a r w rr m hf
theorem szStore_1 (k : Nat) (a : ((List ByteArray × List S140) × S69 × List S154 × (S69 × (List ByteArray × List S140 × Int × List Int × List Int × List Int) × Int) × Bool × Bool)) (b : Int) (t1 : Int) {cs : List Value} (w : World) (h : kStoreL.K w a cs) (f1 : szDisk_c_f k a.1 b = some t1)  (n1 : t1 < 0) :
  Calls Try.prog 31 #[.agg cs.toArray, .int .i64 b] w fun e w' => e = .returned (.int .i64 (-1)) ∧ Below w.heap.size w w' := by
 obtain ⟨cD, _, rfl, hD, cM, _, rfl, hM, cR, _, rfl, hR, cT, _, rfl, hT, cB, cF, rfl, hW, hF⟩ := h
 obtain rfl : cB = [.bool a.2.2.2.2.1] := hW
 obtain rfl : cF = [.bool a.2.2.2.2.2] := hF
 have hR2 := hR
 obtain ⟨AR, ccR, rfl, -, -⟩ := hR
 obtain ⟨vR, hvR⟩ : ∃ v, v = Value.slice AR a.2.2.1.length ccR := ⟨_, rfl⟩
 rw [← hvR] at hR2 ⊢
 obtain ⟨cs, hcs⟩ : ∃ cs, cs = cD ++ (cM ++ ([vR] ++ (cT ++ ([.bool a.2.2.2.2.1] ++ [.bool a.2.2.2.2.2])))) := ⟨_, rfl⟩
 rw [← hcs]
 have Ecs := Aside0.mk hcs
 have KD := Aside0.mk hD; have KM := Aside0.mk hM; have KR := Aside0.mk hR2; have KT := Aside0.mk hT
 have LD := Aside0.mk (show cD.length = 2 from kDiskL.K_len hD); have LM := Aside0.mk (show cM.length = 4 from k69.K_len hM); have LT := Aside0.mk (show cT.length = 11 from kTxnL.K_len hT)
 have Lcs := Aside0.mk (show cs.length = 20 from by rw [hcs]; simp only [List.length_append, LD.out, LM.out, LT.out, List.length_cons, List.length_nil])
 clear hD hM hR2 hT hcs hvR
 have F1 := Aside0.mk f1; clear f1
 have d1 : decide (t1 < 0) = true := decide_eq_true n1
 have O := Aside0.mk (Nat.le_refl w.heap.size)
 have E := Aside0.mk (Env.start w)
 go_enter Try.func31, Try.ntmps31
 go_wp2_with (first | ((with_reducible refine gate_dst (N := 6) rfl ?_); replace O := Aside0.mk (And.intro E.out.le O.out); replace E := Aside0.mk (E.out.alloc cs 74 (g := w.heap.size) rfl); refine ev_loadpart rfl 25 _ rfl w.heap.size 0 [] cD (cM ++ ([vR] ++ (cT ++ ([.bool a.2.2.2.2.1] ++ [.bool a.2.2.2.2.2])))) _ rfl (E.out.box 0 rfl) (by rw [Ecs.out]; first | done | rfl | (simp only [aA, aN, aL]; first | done | rfl)) (rfl) Try.underlying25 rfl (by rw [LD.out]; kernel_rfl) ?_))
 ((with_reducible refine (szDisk_c k a.1 b t1 _ (E.out.K KD.out) F1.out).mono ?_); rintro e w1_ ⟨rfl, hb⟩)
 replace E := Aside0.mk (E.out.call hb); clear hb
 go_wp2_with fail
 go_ret
 exact ⟨rfl, E.out.below⟩
theorem szStore_2 (k : Nat) (a : ((List ByteArray × List S140) × S69 × List S154 × (S69 × (List ByteArray × List S140 × Int × List Int × List Int × List Int) × Int) × Bool × Bool)) (b : Int) (t1 t2 : Int) {cs : List Value} (w : World) (h : kStoreL.K w a cs) (f1 : szDisk_c_f k a.1 b = some t1) (f2 : szMeta_c_f k a.2.1 t1 = some t2) (n1 : ¬ t1 < 0) (n2 : t2 < 0) :
  Calls Try.prog 31 #[.agg cs.toArray, .int .i64 b] w fun e w' => e = .returned (.int .i64 (-1)) ∧ Below w.heap.size w w' := by
 obtain ⟨cD, _, rfl, hD, cM, _, rfl, hM, cR, _, rfl, hR, cT, _, rfl, hT, cB, cF, rfl, hW, hF⟩ := h
 obtain rfl : cB = [.bool a.2.2.2.2.1] := hW
 obtain rfl : cF = [.bool a.2.2.2.2.2] := hF
 have hR2 := hR
 obtain ⟨AR, ccR, rfl, -, -⟩ := hR
 obtain ⟨vR, hvR⟩ : ∃ v, v = Value.slice AR a.2.2.1.length ccR := ⟨_, rfl⟩
 rw [← hvR] at hR2 ⊢
 obtain ⟨cs, hcs⟩ : ∃ cs, cs = cD ++ (cM ++ ([vR] ++ (cT ++ ([.bool a.2.2.2.2.1] ++ [.bool a.2.2.2.2.2])))) := ⟨_, rfl⟩
 rw [← hcs]
 have Ecs := Aside0.mk hcs
 have KD := Aside0.mk hD; have KM := Aside0.mk hM; have KR := Aside0.mk hR2; have KT := Aside0.mk hT
 have LD := Aside0.mk (show cD.length = 2 from kDiskL.K_len hD); have LM := Aside0.mk (show cM.length = 4 from k69.K_len hM); have LT := Aside0.mk (show cT.length = 11 from kTxnL.K_len hT)
 have Lcs := Aside0.mk (show cs.length = 20 from by rw [hcs]; simp only [List.length_append, LD.out, LM.out, LT.out, List.length_cons, List.length_nil])
 clear hD hM hR2 hT hcs hvR
 have F1 := Aside0.mk f1; clear f1
 have F2 := Aside0.mk f2; clear f2
 have d1 : decide (t1 < 0) = false := decide_eq_false n1
 have d2 : decide (t2 < 0) = true := decide_eq_true n2
 have O := Aside0.mk (Nat.le_refl w.heap.size)
 have E := Aside0.mk (Env.start w)
 go_enter Try.func31, Try.ntmps31
 go_wp2_with (first | ((with_reducible refine gate_dst (N := 6) rfl ?_); replace O := Aside0.mk (And.intro E.out.le O.out); replace E := Aside0.mk (E.out.alloc cs 74 (g := w.heap.size) rfl); refine ev_loadpart rfl 25 _ rfl w.heap.size 0 [] cD (cM ++ ([vR] ++ (cT ++ ([.bool a.2.2.2.2.1] ++ [.bool a.2.2.2.2.2])))) _ rfl (E.out.box 0 rfl) (by rw [Ecs.out]; first | done | rfl | (simp only [aA, aN, aL]; first | done | rfl)) (rfl) Try.underlying25 rfl (by rw [LD.out]; kernel_rfl) ?_))
 ((with_reducible refine (szDisk_c k a.1 b t1 _ (E.out.K KD.out) F1.out).mono ?_); rintro e w1_ ⟨rfl, hb⟩)
 replace E := Aside0.mk (E.out.call hb); clear hb
 go_wp2_with (first | ((with_reducible refine gate_dst (N := 12) rfl ?_); refine ev_loadpart rfl 69 _ rfl w.heap.size 2 cD cM ([vR] ++ (cT ++ ([.bool a.2.2.2.2.1] ++ [.bool a.2.2.2.2.2]))) _ rfl (E.out.box 0 rfl) (by rw [Ecs.out]; first | done | rfl | (simp only [aA, aN, aL]; first | done | rfl)) (LD.out) Try.underlying69 rfl (by rw [LM.out]; kernel_rfl) ?_))
 ((with_reducible refine (szMeta_c k a.2.1 t1 t2 _ (E.out.K KM.out) F2.out).mono ?_); rintro e w2_ ⟨rfl, hb⟩)
 replace E := Aside0.mk (E.out.call hb); clear hb
 go_wp2_with fail
 go_ret
 exact ⟨rfl, E.out.below⟩
theorem szStore_3 (k : Nat) (a : ((List ByteArray × List S140) × S69 × List S154 × (S69 × (List ByteArray × List S140 × Int × List Int × List Int × List Int) × Int) × Bool × Bool)) (b : Int) (t1 t2 t3 : Int) {cs : List Value} (w : World) (h : kStoreL.K w a cs) (f1 : szDisk_c_f k a.1 b = some t1) (f2 : szMeta_c_f k a.2.1 t1 = some t2) (f3 : laws_szReaderS.f k a.2.2.1 t2 = some t3) (n1 : ¬ t1 < 0) (n2 : ¬ t2 < 0) (n3 : t3 < 0) :
  Calls Try.prog 31 #[.agg cs.toArray, .int .i64 b] w fun e w' => e = .returned (.int .i64 (-1)) ∧ Below w.heap.size w w' := by
 obtain ⟨cD, _, rfl, hD, cM, _, rfl, hM, cR, _, rfl, hR, cT, _, rfl, hT, cB, cF, rfl, hW, hF⟩ := h
 obtain rfl : cB = [.bool a.2.2.2.2.1] := hW
 obtain rfl : cF = [.bool a.2.2.2.2.2] := hF
 have hR2 := hR
 obtain ⟨AR, ccR, rfl, -, -⟩ := hR
 obtain ⟨vR, hvR⟩ : ∃ v, v = Value.slice AR a.2.2.1.length ccR := ⟨_, rfl⟩
 rw [← hvR] at hR2 ⊢
 obtain ⟨cs, hcs⟩ : ∃ cs, cs = cD ++ (cM ++ ([vR] ++ (cT ++ ([.bool a.2.2.2.2.1] ++ [.bool a.2.2.2.2.2])))) := ⟨_, rfl⟩
 rw [← hcs]
 have Ecs := Aside0.mk hcs
 have KD := Aside0.mk hD; have KM := Aside0.mk hM; have KR := Aside0.mk hR2; have KT := Aside0.mk hT
 have LD := Aside0.mk (show cD.length = 2 from kDiskL.K_len hD); have LM := Aside0.mk (show cM.length = 4 from k69.K_len hM); have LT := Aside0.mk (show cT.length = 11 from kTxnL.K_len hT)
 have Lcs := Aside0.mk (show cs.length = 20 from by rw [hcs]; simp only [List.length_append, LD.out, LM.out, LT.out, List.length_cons, List.length_nil])
 clear hD hM hR2 hT hcs hvR
 have F1 := Aside0.mk f1; clear f1
 have F2 := Aside0.mk f2; clear f2
 have F3 := Aside0.mk f3; clear f3
 have d1 : decide (t1 < 0) = false := decide_eq_false n1
 have d2 : decide (t2 < 0) = false := decide_eq_false n2
 have d3 : decide (t3 < 0) = true := decide_eq_true n3
 have O := Aside0.mk (Nat.le_refl w.heap.size)
 have E := Aside0.mk (Env.start w)
 go_enter Try.func31, Try.ntmps31
 go_wp2_with (first | ((with_reducible refine gate_dst (N := 6) rfl ?_); replace O := Aside0.mk (And.intro E.out.le O.out); replace E := Aside0.mk (E.out.alloc cs 74 (g := w.heap.size) rfl); refine ev_loadpart rfl 25 _ rfl w.heap.size 0 [] cD (cM ++ ([vR] ++ (cT ++ ([.bool a.2.2.2.2.1] ++ [.bool a.2.2.2.2.2])))) _ rfl (E.out.box 0 rfl) (by rw [Ecs.out]; first | done | rfl | (simp only [aA, aN, aL]; first | done | rfl)) (rfl) Try.underlying25 rfl (by rw [LD.out]; kernel_rfl) ?_))
 ((with_reducible refine (szDisk_c k a.1 b t1 _ (E.out.K KD.out) F1.out).mono ?_); rintro e w1_ ⟨rfl, hb⟩)
 replace E := Aside0.mk (E.out.call hb); clear hb
 go_wp2_with (first | ((with_reducible refine gate_dst (N := 12) rfl ?_); refine ev_loadpart rfl 69 _ rfl w.heap.size 2 cD cM ([vR] ++ (cT ++ ([.bool a.2.2.2.2.1] ++ [.bool a.2.2.2.2.2]))) _ rfl (E.out.box 0 rfl) (by rw [Ecs.out]; first | done | rfl | (simp only [aA, aN, aL]; first | done | rfl)) (LD.out) Try.underlying69 rfl (by rw [LM.out]; kernel_rfl) ?_))
 ((with_reducible refine (szMeta_c k a.2.1 t1 t2 _ (E.out.K KM.out) F2.out).mono ?_); rintro e w2_ ⟨rfl, hb⟩)
 replace E := Aside0.mk (E.out.call hb); clear hb
 go_wp2_with (first | ((with_reducible refine gate_dst (N := 18) rfl ?_); refine ev_loadcell rfl 70 _ rfl w.heap.size 6 (cD ++ cM) (vR) (cT ++ ([.bool a.2.2.2.2.1] ++ [.bool a.2.2.2.2.2])) rfl (E.out.box 0 rfl) (by rw [Ecs.out]; first | done | rfl | (simp only [aA, aN, aL]; first | done | rfl)) (by simp only [List.length_append, List.length_cons, List.length_nil, LD.out, LM.out]) Try.underlying70 rfl ?_))
 ((with_reducible refine (szReaders_c k a.2.2.1 t2 t3 _ (E.out.K KR.out) F3.out).mono ?_); rintro e w3_ ⟨rfl, hb⟩)
 replace E := Aside0.mk (E.out.call hb); clear hb
 go_wp2_with fail
 go_ret
 exact ⟨rfl, E.out.below⟩
theorem szStore_4 (k : Nat) (a : ((List ByteArray × List S140) × S69 × List S154 × (S69 × (List ByteArray × List S140 × Int × List Int × List Int × List Int) × Int) × Bool × Bool)) (b : Int) (t1 t2 t3 t4 : Int) {cs : List Value} (w : World) (h : kStoreL.K w a cs) (f1 : szDisk_c_f k a.1 b = some t1) (f2 : szMeta_c_f k a.2.1 t1 = some t2) (f3 : laws_szReaderS.f k a.2.2.1 t2 = some t3) (f4 : szTxn_c_f k a.2.2.2.1 t3 = some t4) (n1 : ¬ t1 < 0) (n2 : ¬ t2 < 0) (n3 : ¬ t3 < 0) (n4 : t4 < 0) :
  Calls Try.prog 31 #[.agg cs.toArray, .int .i64 b] w fun e w' => e = .returned (.int .i64 (-1)) ∧ Below w.heap.size w w' := by
 obtain ⟨cD, _, rfl, hD, cM, _, rfl, hM, cR, _, rfl, hR, cT, _, rfl, hT, cB, cF, rfl, hW, hF⟩ := h
 obtain rfl : cB = [.bool a.2.2.2.2.1] := hW
 obtain rfl : cF = [.bool a.2.2.2.2.2] := hF
 have hR2 := hR
 obtain ⟨AR, ccR, rfl, -, -⟩ := hR
 obtain ⟨vR, hvR⟩ : ∃ v, v = Value.slice AR a.2.2.1.length ccR := ⟨_, rfl⟩
 rw [← hvR] at hR2 ⊢
 obtain ⟨cs, hcs⟩ : ∃ cs, cs = cD ++ (cM ++ ([vR] ++ (cT ++ ([.bool a.2.2.2.2.1] ++ [.bool a.2.2.2.2.2])))) := ⟨_, rfl⟩
 rw [← hcs]
 have Ecs := Aside0.mk hcs
 have KD := Aside0.mk hD; have KM := Aside0.mk hM; have KR := Aside0.mk hR2; have KT := Aside0.mk hT
 have LD := Aside0.mk (show cD.length = 2 from kDiskL.K_len hD); have LM := Aside0.mk (show cM.length = 4 from k69.K_len hM); have LT := Aside0.mk (show cT.length = 11 from kTxnL.K_len hT)
 have Lcs := Aside0.mk (show cs.length = 20 from by rw [hcs]; simp only [List.length_append, LD.out, LM.out, LT.out, List.length_cons, List.length_nil])
 clear hD hM hR2 hT hcs hvR
 have F1 := Aside0.mk f1; clear f1
 have F2 := Aside0.mk f2; clear f2
 have F3 := Aside0.mk f3; clear f3
 have F4 := Aside0.mk f4; clear f4
 have d1 : decide (t1 < 0) = false := decide_eq_false n1
 have d2 : decide (t2 < 0) = false := decide_eq_false n2
 have d3 : decide (t3 < 0) = false := decide_eq_false n3
 have d4 : decide (t4 < 0) = true := decide_eq_true n4
 have O := Aside0.mk (Nat.le_refl w.heap.size)
 have E := Aside0.mk (Env.start w)
 go_enter Try.func31, Try.ntmps31
 go_wp2_with (first | ((with_reducible refine gate_dst (N := 6) rfl ?_); replace O := Aside0.mk (And.intro E.out.le O.out); replace E := Aside0.mk (E.out.alloc cs 74 (g := w.heap.size) rfl); refine ev_loadpart rfl 25 _ rfl w.heap.size 0 [] cD (cM ++ ([vR] ++ (cT ++ ([.bool a.2.2.2.2.1] ++ [.bool a.2.2.2.2.2])))) _ rfl (E.out.box 0 rfl) (by rw [Ecs.out]; first | done | rfl | (simp only [aA, aN, aL]; first | done | rfl)) (rfl) Try.underlying25 rfl (by rw [LD.out]; kernel_rfl) ?_))
 ((with_reducible refine (szDisk_c k a.1 b t1 _ (E.out.K KD.out) F1.out).mono ?_); rintro e w1_ ⟨rfl, hb⟩)
 replace E := Aside0.mk (E.out.call hb); clear hb
 go_wp2_with (first | ((with_reducible refine gate_dst (N := 12) rfl ?_); refine ev_loadpart rfl 69 _ rfl w.heap.size 2 cD cM ([vR] ++ (cT ++ ([.bool a.2.2.2.2.1] ++ [.bool a.2.2.2.2.2]))) _ rfl (E.out.box 0 rfl) (by rw [Ecs.out]; first | done | rfl | (simp only [aA, aN, aL]; first | done | rfl)) (LD.out) Try.underlying69 rfl (by rw [LM.out]; kernel_rfl) ?_))
 ((with_reducible refine (szMeta_c k a.2.1 t1 t2 _ (E.out.K KM.out) F2.out).mono ?_); rintro e w2_ ⟨rfl, hb⟩)
 replace E := Aside0.mk (E.out.call hb); clear hb
 go_wp2_with (first | ((with_reducible refine gate_dst (N := 18) rfl ?_); refine ev_loadcell rfl 70 _ rfl w.heap.size 6 (cD ++ cM) (vR) (cT ++ ([.bool a.2.2.2.2.1] ++ [.bool a.2.2.2.2.2])) rfl (E.out.box 0 rfl) (by rw [Ecs.out]; first | done | rfl | (simp only [aA, aN, aL]; first | done | rfl)) (by simp only [List.length_append, List.length_cons, List.length_nil, LD.out, LM.out]) Try.underlying70 rfl ?_))
 ((with_reducible refine (szReaders_c k a.2.2.1 t2 t3 _ (E.out.K KR.out) F3.out).mono ?_); rintro e w3_ ⟨rfl, hb⟩)
 replace E := Aside0.mk (E.out.call hb); clear hb
 go_wp2_with (first | ((with_reducible refine gate_dst (N := 24) rfl ?_); refine ev_loadpart rfl 72 _ rfl w.heap.size 7 (cD ++ (cM ++ [vR])) cT ([.bool a.2.2.2.2.1] ++ [.bool a.2.2.2.2.2]) _ rfl (E.out.box 0 rfl) (by rw [Ecs.out]; first | done | rfl | (simp only [aA, aN, aL]; first | done | rfl)) (by simp only [List.length_append, List.length_cons, List.length_nil, LD.out, LM.out]) Try.underlying72 rfl (by rw [LT.out]; kernel_rfl) ?_))
 ((with_reducible refine (szTxn_c k a.2.2.2.1 t3 t4 _ (E.out.K KT.out) F4.out).mono ?_); rintro e w4_ ⟨rfl, hb⟩)
 replace E := Aside0.mk (E.out.call hb); clear hb
 go_wp2_with fail
 go_ret
 exact ⟨rfl, E.out.below⟩
theorem szStore_5 (k : Nat) (a : ((List ByteArray × List S140) × S69 × List S154 × (S69 × (List ByteArray × List S140 × Int × List Int × List Int × List Int) × Int) × Bool × Bool)) (b : Int) (t1 t2 t3 t4 : Int) {cs : List Value} (w : World) (h : kStoreL.K w a cs) (f1 : szDisk_c_f k a.1 b = some t1) (f2 : szMeta_c_f k a.2.1 t1 = some t2) (f3 : laws_szReaderS.f k a.2.2.1 t2 = some t3) (f4 : szTxn_c_f k a.2.2.2.1 t3 = some t4) (n1 : ¬ t1 < 0) (n2 : ¬ t2 < 0) (n3 : ¬ t3 < 0) (n4 : ¬ t4 < 0) :
  Calls Try.prog 31 #[.agg cs.toArray, .int .i64 b] w fun e w' => e = .returned (.int .i64 t4) ∧ Below w.heap.size w w' := by
 obtain ⟨cD, _, rfl, hD, cM, _, rfl, hM, cR, _, rfl, hR, cT, _, rfl, hT, cB, cF, rfl, hW, hF⟩ := h
 obtain rfl : cB = [.bool a.2.2.2.2.1] := hW
 obtain rfl : cF = [.bool a.2.2.2.2.2] := hF
 have hR2 := hR
 obtain ⟨AR, ccR, rfl, -, -⟩ := hR
 obtain ⟨vR, hvR⟩ : ∃ v, v = Value.slice AR a.2.2.1.length ccR := ⟨_, rfl⟩
 rw [← hvR] at hR2 ⊢
 obtain ⟨cs, hcs⟩ : ∃ cs, cs = cD ++ (cM ++ ([vR] ++ (cT ++ ([.bool a.2.2.2.2.1] ++ [.bool a.2.2.2.2.2])))) := ⟨_, rfl⟩
 rw [← hcs]
 have Ecs := Aside0.mk hcs
 have KD := Aside0.mk hD; have KM := Aside0.mk hM; have KR := Aside0.mk hR2; have KT := Aside0.mk hT
 have LD := Aside0.mk (show cD.length = 2 from kDiskL.K_len hD); have LM := Aside0.mk (show cM.length = 4 from k69.K_len hM); have LT := Aside0.mk (show cT.length = 11 from kTxnL.K_len hT)
 have Lcs := Aside0.mk (show cs.length = 20 from by rw [hcs]; simp only [List.length_append, LD.out, LM.out, LT.out, List.length_cons, List.length_nil])
 clear hD hM hR2 hT hcs hvR
 have F1 := Aside0.mk f1; clear f1
 have F2 := Aside0.mk f2; clear f2
 have F3 := Aside0.mk f3; clear f3
 have F4 := Aside0.mk f4; clear f4
 have d1 : decide (t1 < 0) = false := decide_eq_false n1
 have d2 : decide (t2 < 0) = false := decide_eq_false n2
 have d3 : decide (t3 < 0) = false := decide_eq_false n3
 have d4 : decide (t4 < 0) = false := decide_eq_false n4
 have O := Aside0.mk (Nat.le_refl w.heap.size)
 have E := Aside0.mk (Env.start w)
 go_enter Try.func31, Try.ntmps31
 go_wp2_with (first | ((with_reducible refine gate_dst (N := 6) rfl ?_); replace O := Aside0.mk (And.intro E.out.le O.out); replace E := Aside0.mk (E.out.alloc cs 74 (g := w.heap.size) rfl); refine ev_loadpart rfl 25 _ rfl w.heap.size 0 [] cD (cM ++ ([vR] ++ (cT ++ ([.bool a.2.2.2.2.1] ++ [.bool a.2.2.2.2.2])))) _ rfl (E.out.box 0 rfl) (by rw [Ecs.out]; first | done | rfl | (simp only [aA, aN, aL]; first | done | rfl)) (rfl) Try.underlying25 rfl (by rw [LD.out]; kernel_rfl) ?_))
 ((with_reducible refine (szDisk_c k a.1 b t1 _ (E.out.K KD.out) F1.out).mono ?_); rintro e w1_ ⟨rfl, hb⟩)
 replace E := Aside0.mk (E.out.call hb); clear hb
 go_wp2_with (first | ((with_reducible refine gate_dst (N := 12) rfl ?_); refine ev_loadpart rfl 69 _ rfl w.heap.size 2 cD cM ([vR] ++ (cT ++ ([.bool a.2.2.2.2.1] ++ [.bool a.2.2.2.2.2]))) _ rfl (E.out.box 0 rfl) (by rw [Ecs.out]; first | done | rfl | (simp only [aA, aN, aL]; first | done | rfl)) (LD.out) Try.underlying69 rfl (by rw [LM.out]; kernel_rfl) ?_))
 ((with_reducible refine (szMeta_c k a.2.1 t1 t2 _ (E.out.K KM.out) F2.out).mono ?_); rintro e w2_ ⟨rfl, hb⟩)
 replace E := Aside0.mk (E.out.call hb); clear hb
 go_wp2_with (first | ((with_reducible refine gate_dst (N := 18) rfl ?_); refine ev_loadcell rfl 70 _ rfl w.heap.size 6 (cD ++ cM) (vR) (cT ++ ([.bool a.2.2.2.2.1] ++ [.bool a.2.2.2.2.2])) rfl (E.out.box 0 rfl) (by rw [Ecs.out]; first | done | rfl | (simp only [aA, aN, aL]; first | done | rfl)) (by simp only [List.length_append, List.length_cons, List.length_nil, LD.out, LM.out]) Try.underlying70 rfl ?_))
 ((with_reducible refine (szReaders_c k a.2.2.1 t2 t3 _ (E.out.K KR.out) F3.out).mono ?_); rintro e w3_ ⟨rfl, hb⟩)
 replace E := Aside0.mk (E.out.call hb); clear hb
 go_wp2_with (first | ((with_reducible refine gate_dst (N := 24) rfl ?_); refine ev_loadpart rfl 72 _ rfl w.heap.size 7 (cD ++ (cM ++ [vR])) cT ([.bool a.2.2.2.2.1] ++ [.bool a.2.2.2.2.2]) _ rfl (E.out.box 0 rfl) (by rw [Ecs.out]; first | done | rfl | (simp only [aA, aN, aL]; first | done | rfl)) (by simp only [List.length_append, List.length_cons, List.length_nil, LD.out, LM.out]) Try.underlying72 rfl (by rw [LT.out]; kernel_rfl) ?_))
 ((with_reducible refine (szTxn_c k a.2.2.2.1 t3 t4 _ (E.out.K KT.out) F4.out).mono ?_); rintro e w4_ ⟨rfl, hb⟩)
 replace E := Aside0.mk (E.out.call hb); clear hb
 go_wp2_with fail
 go_ret
 exact ⟨rfl, E.out.below⟩
def szStore_f (k : Nat) (a : ((List ByteArray × List S140) × S69 × List S154 × (S69 × (List ByteArray × List S140 × Int × List Int × List Int × List Int) × Int) × Bool × Bool)) (b : Int) : Option Int := (szDisk_c_f k a.1 b).bind fun t1 => if t1 < 0 then some (-1) else (szMeta_c_f k a.2.1 t1).bind fun t2 => if t2 < 0 then some (-1) else (laws_szReaderS.f k a.2.2.1 t2).bind fun t3 => if t3 < 0 then some (-1) else (szTxn_c_f k a.2.2.2.1 t3).bind fun t4 => if t4 < 0 then some (-1) else some t4
theorem szStore_c (k : Nat) (a : ((List ByteArray × List S140) × S69 × List S154 × (S69 × (List ByteArray × List S140 × Int × List Int × List Int × List Int) × Int) × Bool × Bool)) (b r : Int) {cs : List Value} (w : World) (h : kStoreL.K w a cs) (hf : szStore_f k a b = some r) :
  Calls Try.prog 31 #[.agg cs.toArray, .int .i64 b] w fun e w' => e = .returned (.int .i64 r) ∧ Below w.heap.size w w' := by
 unfold szStore_f at hf
 obtain ⟨t1, f1, hf⟩ := Option.bind_eq_some_iff.1 hf
 by_cases n1 : t1 < 0
 ·rw [if_pos n1] at hf; injection hf with hf; subst hf; exact szStore_1 k a b t1 w h f1 n1
 rw [if_neg n1] at hf
 obtain ⟨t2, f2, hf⟩ := Option.bind_eq_some_iff.1 hf
 by_cases n2 : t2 < 0
 ·rw [if_pos n2] at hf; injection hf with hf; subst hf; exact szStore_2 k a b t1 t2 w h f1 f2 n1 n2
 rw [if_neg n2] at hf
 obtain ⟨t3, f3, hf⟩ := Option.bind_eq_some_iff.1 hf
 by_cases n3 : t3 < 0
 ·rw [if_pos n3] at hf; injection hf with hf; subst hf; exact szStore_3 k a b t1 t2 t3 w h f1 f2 f3 n1 n2 n3
 rw [if_neg n3] at hf
 obtain ⟨t4, f4, hf⟩ := Option.bind_eq_some_iff.1 hf
 by_cases n4 : t4 < 0
 ·rw [if_pos n4] at hf; injection hf with hf; subst hf; exact szStore_4 k a b t1 t2 t3 t4 w h f1 f2 f3 f4 n1 n2 n3 n4
 rw [if_neg n4] at hf
 injection hf with hf
 subst hf
 exact szStore_5 k a b t1 t2 t3 t4 w h f1 f2 f3 f4 n1 n2 n3 n4
def MarkStore (k : Nat) (z : ((List ByteArray × List S135) × S53 × List S118 × (S53 × (List ByteArray × List S135 × Int × List Int × List Int × List Int) × Int) × Bool × Bool)) (a : Int) (z' : ((List ByteArray × List S135) × S53 × List S118 × (S53 × (List ByteArray × List S135 × Int × List Int × List Int × List Int) × Int) × Bool × Bool)) (r : Int) : Prop := ∃ u1 u2 u3 u4 t1 t2 t3 : Int, laws_markDisk.f k z.1.1 z.1.2 a = some (u1, z'.1.1, z'.1.2) ∧ markF.l0 k z.2.1.f3 u1 0 = some (u2, z'.2.1.f3) ∧ markR.l0 k z.2.2.1 u2 0 = some (u3, z'.2.2.1) ∧ markF.l0 k z.2.2.2.1.1.f3 u3 0 = some (u4, z'.2.2.2.1.1.f3) ∧ laws_markDisk.f k z.2.2.2.1.2.1.1 z.2.2.2.1.2.1.2.1 u4 = some (t1, z'.2.2.2.1.2.1.1, z'.2.2.2.1.2.1.2.1) ∧ laws_markIntS.f k z.2.2.2.1.2.1.2.2.2.1 t1 = some (t2, z'.2.2.2.1.2.1.2.2.2.1) ∧ laws_markIntS.f k z.2.2.2.1.2.1.2.2.2.2.1 t2 = some (t3, z'.2.2.2.1.2.1.2.2.2.2.1) ∧ laws_markIntS.f k z.2.2.2.1.2.1.2.2.2.2.2 t3 = some (r, z'.2.2.2.1.2.1.2.2.2.2.2) ∧
 z' = ((z'.1.1, z'.1.2), (⟨z.2.1.f0, z.2.1.f1, z.2.1.f2, z'.2.1.f3⟩ : S53), z'.2.2.1, ((⟨z.2.2.2.1.1.f0, z.2.2.2.1.1.f1, z.2.2.2.1.1.f2, z'.2.2.2.1.1.f3⟩ : S53), (z'.2.2.2.1.2.1.1, z'.2.2.2.1.2.1.2.1, z.2.2.2.1.2.1.2.2.1, z'.2.2.2.1.2.1.2.2.2.1, z'.2.2.2.1.2.1.2.2.2.2.1, z'.2.2.2.1.2.1.2.2.2.2.2), z.2.2.2.1.2.2), z.2.2.2.2.1, z.2.2.2.2.2)
theorem markStore_c (k : Nat) (z : ((List ByteArray × List S135) × S53 × List S118 × (S53 × (List ByteArray × List S135 × Int × List Int × List Int × List Int) × Int) × Bool × Bool)) (a : Int) (z' : ((List ByteArray × List S135) × S53 × List S118 × (S53 × (List ByteArray × List S135 × Int × List Int × List Int × List Int) × Int) × Bool × Bool)) (r : Int) (ok : Nat → Prop) {cs : List Value} (w0 w : World) (hB : Below w0.heap.size w0 w) (hk : ∀ k, ok k → k < w.heap.size) (h : kStore.M w w0.heap.size ok z cs) (hf : MarkStore k z a z' r) :
  Calls Try.prog 29 #[.agg cs.toArray, .int .i64 a] w fun e w' => e = .returned (.int .i64 r) ∧ kStore.M w' w0.heap.size ok z' cs ∧ Below w0.heap.size w0 w' ∧ Kept w w' ok := by
 obtain ⟨u1, u2, u3, u4, t1, t2, t3, f1, f2, f3, f4, g1, g2, g3, g4, e⟩ := hf
 rw [e]
 obtain ⟨⟨l0, l1⟩, x, rs, ⟨y, ⟨j0, j1, j2, j3, j4, j5⟩, n⟩, bw, bf⟩ := z
 exact markStore_o k l0 l1 x rs y j0 j1 j2 j3 j4 j5 n bw bf a u1 u2 u3 u4 t1 t2 t3 r _ _ _ _ _ _ _ _ _ _ ok w0 w hB hk h f1 f2 f3 f4 g1 g2 g3 g4
theorem Env.mbound {w0 W : World} {top : Nat} {fs : List Fct} (E : Env w0 W top fs) (i : Nat) {α : Type} {d : Kd α} {base lo hi : Nat} {ok : Nat → Prop} {x : α} {cs : List Value} (hf : fs[i]? = some (Fct.made d base lo hi ok x cs)) : ∀ k, ok k ∧ Iv lo hi k → k < W.heap.size :=
 fun k hk => Nat.lt_of_lt_of_le hk.2.2 (Nat.le_trans (All.get i E.all hf).1 E.le)
theorem Env.marked {w0 W W' : World} {top : Nat} {fs : List Fct} (E : Env w0 W top fs) (i : Nat) {α : Type} {d : Kd α} {lo hi : Nat} {ok : Nat → Prop} {x x' : α} {cs : List Value} (hf : fs[i]? = some (Fct.made d w0.heap.size lo hi ok x cs)) (M : d.M W' w0.heap.size (fun k => ok k ∧ Iv lo hi k) x' cs) (hB : Below w0.heap.size w0 W') (hK : Kept W W' (fun k => ok k ∧ Iv lo hi k)) (ho : Off2 lo hi fs i) : Env w0 W' top (fs.set i (Fct.made d w0.heap.size lo hi ok x' cs)) :=
 ⟨hB, Nat.le_trans E.le hK.1, E.ge, All.off2 (fun k hk h2 => hK.2 k (Nat.lt_of_lt_of_le hk E.le) (fun h => by have h3 := h.2.1; have h4 := h.2.2; omega)) (Nat.le_refl _) (f' := Fct.made d w0.heap.size lo hi ok x' cs) (show hi ≤ top from (All.get i E.all hf).1) M i E.all ho⟩
theorem eqI_ev1 (l : List Int) (h : l.length ≤ 1048576) : Ev (fun k => laws_eqIntS.f k l l) true := eqI_ev l (by omega)
theorem rd_T183_nat (xs : List S183) (k : Nat) (hk : k < xs.length) : rd_T183 xs (k : Int) = xs[k] := by
 simp [rd_T183, List.getD_eq_getElem?_getD, List.getElem?_eq_getElem hk]
def sumF (l : List S183) : Nat := ((l.map S183.f1).flatten).length
theorem sumF_cons (x : S183) (l : List S183) : sumF (x :: l) = x.f1.length + sumF l := by simp [sumF]
theorem szF_go (l : List S183) (hs : ∀ s ∈ l, s.f1.length ≤ 9223372036854775807) (hl : l.length ≤ 9223372036854775807) : ∀ (n i : Nat) (x : Int), i + n = l.length → 0 ≤ x → x ≤ 1048576 → ∃ r, laws_szFreeS.l0 (n + 1) l x (i : Int) = some r ∧ (r < 0 ∨ (0 ≤ r ∧ r ≤ x ∧ (sumF (l.drop i) : Int) ≤ x)) := by
 intro n
 induction n with
 | zero =>
  intro i x hi h0 h1
  refine ⟨x, ?_, .inr ⟨h0, Int.le_refl _, by rw [List.drop_eq_nil_of_le (by omega)]; simpa [sumF] using h0⟩⟩
  rw [laws_szFreeS.l0, if_neg (by omega)]
 | succ n ih =>
  intro i x hi h0 h1
  have hlt : i < l.length := by omega
  have hsz := hs l[i] (List.getElem_mem hlt)
  have hdr : sumF (l.drop i) = l[i].f1.length + sumF (l.drop (i + 1)) := by rw [List.drop_eq_getElem_cons hlt, sumF_cons]
  rw [laws_szFreeS.l0, if_pos (by omega), if_pos (by omega), rd_T183_nat _ _ hlt, laws_szFree.f, laws_szIntS.f, wrap_in (x := x - _) (by omega) (by omega), wrap_in (x := (i : Int) + 1) (by omega) (by omega)]
  by_cases hneg : x - (l[i].f1.length : Int) < 0
  ·rw [if_pos hneg, Option.bind_some, if_pos (by omega), Option.bind_some, if_pos (by omega)]
   exact ⟨-1, rfl, .inl (by omega)⟩
  ·rw [if_neg hneg, Option.bind_some, if_neg hneg, Option.bind_some, if_neg hneg]
   obtain ⟨r, h2, h3⟩ := ih (i + 1) (x - (l[i].f1.length : Int)) (by omega) (by omega) (by omega)
   refine ⟨r, by rw [show (i : Int) + 1 = ((i + 1 : Nat) : Int) by omega]; exact h2, ?_⟩
   rcases h3 with h3 | ⟨h4, h5, h6⟩
   ·exact .inl h3
   ·exact .inr ⟨h4, by omega, by rw [hdr]; omega⟩
theorem szM_ev (m0 m1 m2 : Int) (l : List S183) (hs : ∀ s ∈ l, s.f1.length ≤ 9223372036854775807) (hl : l.length ≤ 9223372036854775807) (x : Int) (h0 : 0 ≤ x) (h1 : x ≤ 1048576) : ∃ r, Ev (fun k => laws_szMeta.f k m0 m1 m2 l x) r ∧ (r < 0 ∨ (¬ r < 0 ∧ r ≤ x ∧ l.length ≤ 1048576 ∧ sumF l ≤ 1048576)) := by
 by_cases hneg : x - (l.length : Int) < 0
 ·refine ⟨-1, Ev.of (k := 0) (fun k => laws_szMeta.mono _ _ _ _ _ k) ?_, .inl (by omega)⟩
  unfold laws_szMeta.f laws_szFreeS.f
  rw [wrap_in (by omega) (by omega), if_pos hneg, Option.bind_some, if_pos (by omega)]
 ·obtain ⟨r, h2, h3⟩ := szF_go l hs hl l.length 0 (x - (l.length : Int)) (by omega) (by omega) (by omega)
  have hev : ∀ r', (laws_szFreeS.l0 (l.length + 1) l (x - (l.length : Int)) 0 = some r) → (if r < 0 then -1 else r) = r' → Ev (fun k => laws_szMeta.f k m0 m1 m2 l x) r' := fun r' h e => by
   refine Ev.of (k := l.length + 1) (fun k => laws_szMeta.mono _ _ _ _ _ k) ?_
   unfold laws_szMeta.f laws_szFreeS.f
   rw [wrap_in (by omega) (by omega), if_neg hneg, h, Option.bind_some, ← e]
   split <;> rfl
  rcases h3 with h3 | ⟨h4, h5, h6⟩
  ·exact ⟨-1, hev _ h2 (if_pos h3), .inl (by omega)⟩
  ·refine ⟨r, hev _ h2 (if_neg (by omega)), .inr ⟨by omega, by omega, by omega, ?_⟩⟩
   rw [List.drop_zero] at h6
   omega
theorem sumF_mem (l : List S183) (s : S183) (h : s ∈ l) : s.f1.length ≤ sumF l := by
 induction l with
 | nil => cases h
 | cons x l ih =>
  rw [sumF_cons]
  rcases List.mem_cons.1 h with rfl | h
  ·omega
  ·have := ih h; omega
def convF (x : S183) : S122 := ⟨x.f0, x.f1⟩
theorem toF_go (l : List S183) (hl : l.length ≤ 1048576) (hs : ∀ s ∈ l, s.f1.length ≤ 1048576) : ∀ (n i : Nat), i + n = l.length → Ev (fun k => laws_toFreeS.l0 k l ((l.map convF).take i ++ List.replicate n z122) (i : Int)) (l.map convF) := by
 intro n
 induction n with
 | zero =>
  intro i hi
  refine Ev.step (f := fun _ => some (l.map convF)) (fun k => ?_) (Ev.now _)
  rw [laws_toFreeS.l0, if_neg (by omega), List.replicate_zero, List.append_nil, List.take_of_length_le (by rw [List.length_map]; omega)]
 | succ n ih =>
  intro i hi
  have hlt : i < l.length := by omega
  have hlt' : i < (l.map convF).length := by rw [List.length_map]; exact hlt
  have hti : ((l.map convF).take i).length = i := by rw [List.length_take, List.length_map]; omega
  refine Ev.step (f := fun k => (laws_toIntS.f k l[i].f1).bind fun t => laws_toFreeS.l0 k l (((l.map convF).take i ++ z122 :: List.replicate n z122).set i ⟨l[i].f0, t⟩) ((i + 1 : Nat) : Int)) (fun k => ?_) (Ev.bind (toI_ev _ (hs _ (List.getElem_mem hlt))) ?_)
  ·rw [laws_toFreeS.l0, if_pos (by omega), if_pos (by omega), rd_T183_nat _ _ hlt, laws_toFree.f, wrap_in (by omega) (by omega), Int.toNat_natCast, List.replicate_succ]
   cases laws_toIntS.f k l[i].f1 with
   | none => rfl
   | some t =>
    simp only [Option.bind_some]
    rw [if_pos (by simp; omega)]
    rfl
  ·have := set_front ((l.map convF).take i) (List.replicate n z122) z122 (convF l[i])
   rw [hti] at this
   show Ev (fun k => laws_toFreeS.l0 k l (((l.map convF).take i ++ z122 :: List.replicate n z122).set i (convF l[i])) _) _
   rw [this, show convF l[i] = (l.map convF)[i] by rw [List.getElem_map], List.take_append_getElem hlt']
   exact ih (i + 1) (by omega)
theorem toM_ev (m0 m1 m2 : Int) (l : List S183) (hl : l.length ≤ 1048576) (hs : ∀ s ∈ l, s.f1.length ≤ 1048576) : Ev (fun k => laws_toMeta.f k m0 m1 m2 l) (m0, m1, m2, l.map convF) := by
 refine Ev.bind (a := l.map convF) ?_ (Ev.now _)
 have h := toF_go l hl hs l.length 0 (by omega)
 refine Ev.congr (f := fun k => laws_toFreeS.l0 k l ((l.map convF).take 0 ++ List.replicate l.length z122) 0) (fun k => ?_) h
 unfold laws_toFreeS.f
 rw [if_pos (by omega), if_pos (by rw [Int.toNat_natCast]; omega), Int.toNat_natCast, List.take_zero, List.nil_append]
theorem rd_T122_nat (xs : List S122) (k : Nat) (hk : k < xs.length) : rd_T122 xs (k : Int) = xs[k] := by
 simp [rd_T122, List.getD_eq_getElem?_getD, List.getElem?_eq_getElem hk]
theorem eqF_go (l : List S122) (hl : l.length ≤ 1048576) (hs : ∀ s ∈ l, s.f1.length ≤ 1048576) : ∀ (n i : Nat), i + n = l.length → Ev (fun k => laws_eqFreeS.l0 k l l (i : Int)) true := by
 intro n
 induction n with
 | zero =>
  intro i hi
  exact Ev.step (f := fun _ => some true) (fun k => by rw [laws_eqFreeS.l0, if_neg (by omega)]) (Ev.now _)
 | succ n ih =>
  intro i hi
  have hlt : i < l.length := by omega
  refine Ev.step (f := fun k => (laws_eqIntS.f k l[i].f1 l[i].f1).bind fun t => if t = true then laws_eqFreeS.l0 k l l ((i + 1 : Nat) : Int) else none) (fun k => ?_) (Ev.bind (eqI_ev1 _ (hs _ (List.getElem_mem hlt))) ?_)
  ·rw [laws_eqFreeS.l0, if_pos (by omega), if_pos (by omega), if_pos (by omega), rd_T122_nat _ _ hlt, laws_eqFree.f, if_pos rfl, wrap_in (by omega) (by omega)]
   cases laws_eqIntS.f k l[i].f1 l[i].f1 with
   | none => rfl
   | some t => cases t <;> rfl
  ·simp only [if_true]
   exact ih (i + 1) (by omega)
theorem eqM_ev (m0 m1 m2 : Int) (l : List S122) (hl : l.length ≤ 1048576) (hs : ∀ s ∈ l, s.f1.length ≤ 1048576) : Ev (fun k => laws_eqMeta.f k m0 m1 m2 l m0 m1 m2 l) true := by
 have h := eqF_go l hl hs l.length 0 (by omega)
 refine Ev.congr (f := fun k => (laws_eqFreeS.l0 k l l 0).bind fun t => if t = true then some true else none) (fun k => ?_) (Ev.bind h (Ev.now _))
 unfold laws_eqMeta.f laws_eqFreeS.f
 rw [if_pos rfl, if_pos rfl, if_pos rfl, if_pos rfl]
def OKm (l : List S183) : Prop := l.length ≤ 1048576 ∧ ∀ s ∈ l, s.f1.length ≤ 1048576
def INm (l : List S183) : Prop := (∀ s ∈ l, s.f1.length ≤ 9223372036854775807) ∧ l.length ≤ 9223372036854775807
theorem szMx (m0 m1 m2 : Int) (l : List S183) (h : INm l) (x : Int) (h0 : 0 ≤ x) (hx : x ≤ 1048576) : ∃ r, Ev (fun k => laws_szMeta.f k m0 m1 m2 l x) r ∧ (r < 0 ∨ (0 ≤ r ∧ r ≤ x ∧ OKm l)) := by
 obtain ⟨r, e, hr⟩ := szM_ev m0 m1 m2 l h.1 h.2 x h0 hx
 refine ⟨r, e, ?_⟩
 rcases hr with hr | ⟨a, b, c, d⟩
 ·exact .inl hr
 ·exact .inr ⟨by omega, b, c, fun s hs => Nat.le_trans (sumF_mem l s hs) d⟩
theorem rd_T154_nat (xs : List S154) (k : Nat) (hk : k < xs.length) : rd_T154 xs (k : Int) = xs[k] := by
 simp [rd_T154, List.getD_eq_getElem?_getD, List.getElem?_eq_getElem hk]
theorem rd_T118_nat (xs : List S118) (k : Nat) (hk : k < xs.length) : rd_T118 xs (k : Int) = xs[k] := by
 simp [rd_T118, List.getD_eq_getElem?_getD, List.getElem?_eq_getElem hk]
theorem szR_go (l : List S154) (hs : ∀ s ∈ l, INm s.f1.f3) (hl : l.length ≤ 9223372036854775807) : ∀ (n i : Nat) (x : Int), i + n = l.length → 0 ≤ x → x ≤ 1048576 → ∃ r, Ev (fun k => laws_szReaderS.l0 k l x (i : Int)) r ∧ (r < 0 ∨ (0 ≤ r ∧ r ≤ x ∧ ∀ j (hj : j < l.length), i ≤ j → OKm l[j].f1.f3)) := by
 intro n
 induction n with
 | zero =>
  intro i x hi h0 h1
  exact ⟨x, Ev.step (f := fun _ => some x) (fun k => by rw [laws_szReaderS.l0, if_neg (by omega)]) (Ev.now _), .inr ⟨h0, Int.le_refl _, fun j hj hij => by omega⟩⟩
 | succ n ih =>
  intro i x hi h0 h1
  have hlt : i < l.length := by omega
  obtain ⟨a, ea, ha⟩ := szMx l[i].f1.f0 l[i].f1.f1 l[i].f1.f2 l[i].f1.f3 (hs _ (List.getElem_mem hlt)) x h0 h1
  have hst : ∀ k, laws_szReaderS.l0 (k + 1) l x (i : Int) = ((laws_szMeta.f k l[i].f1.f0 l[i].f1.f1 l[i].f1.f2 l[i].f1.f3 x).bind fun t => if t < 0 then some (-1) else some t).bind fun t => if t < 0 then some (-1) else laws_szReaderS.l0 k l t ((i + 1 : Nat) : Int) := fun k => by
   rw [laws_szReaderS.l0, if_pos (by omega), if_pos (by omega), rd_T154_nat _ _ hlt, wrap_in (by omega) (by omega)]
   rfl
  rcases ha with ha | ⟨a0, a1, a2⟩
  ·exact ⟨-1, Ev.step hst (Ev.bind (a := -1) (Ev.bind ea (by simp only [if_pos ha]; exact Ev.now _)) (by simp only [if_pos (show (-1 : Int) < 0 by omega)]; exact Ev.now _)), .inl (by omega)⟩
  ·obtain ⟨r, er, hr⟩ := ih (i + 1) a (by omega) a0 (by omega)
   refine ⟨r, Ev.step hst (Ev.bind (a := a) (Ev.bind ea (by simp only [if_neg (show ¬ a < 0 by omega)]; exact Ev.now _)) (by simp only [if_neg (show ¬ a < 0 by omega)]; exact er)), ?_⟩
   rcases hr with hr | ⟨r0, r1, r2⟩
   ·exact .inl hr
   ·refine .inr ⟨r0, by omega, fun j hj hij => ?_⟩
    by_cases hji : j = i
    ·subst hji; exact a2
    ·exact r2 j hj (by omega)
theorem szRx (l : List S154) (hs : ∀ s ∈ l, INm s.f1.f3) (hl : l.length ≤ 9223372036854775807) (x : Int) (h0 : 0 ≤ x) (hx : x ≤ 1048576) : ∃ r, Ev (fun k => laws_szReaderS.f k l x) r ∧ (r < 0 ∨ (0 ≤ r ∧ r ≤ x ∧ l.length ≤ 1048576 ∧ ∀ s ∈ l, OKm s.f1.f3)) := by
 by_cases hneg : x - (l.length : Int) < 0
 ·exact ⟨-1, Ev.congr (f := fun _ => some (-1)) (fun k => by unfold laws_szReaderS.f; rw [wrap_in (by omega) (by omega), if_pos hneg]) (Ev.now _), .inl (by omega)⟩
 ·obtain ⟨r, er, hr⟩ := szR_go l hs hl l.length 0 (x - (l.length : Int)) (by omega) (by omega) (by omega)
  refine ⟨r, Ev.congr (fun k => by unfold laws_szReaderS.f; rw [wrap_in (by omega) (by omega), if_neg hneg]; rfl) er, ?_⟩
  rcases hr with hr | ⟨r0, r1, r2⟩
  ·exact .inl hr
  ·refine .inr ⟨r0, by omega, by omega, fun s hs => ?_⟩
   obtain ⟨j, hj, rfl⟩ := List.getElem_of_mem hs
   exact r2 j hj (Nat.zero_le _)
def convR (s : S154) : S118 := ⟨s.f0, ⟨s.f1.f0, s.f1.f1, s.f1.f2, s.f1.f3.map convF⟩⟩
theorem toR_go (l : List S154) (hl : l.length ≤ 1048576) (hs : ∀ s ∈ l, OKm s.f1.f3) : ∀ (n i : Nat), i + n = l.length → Ev (fun k => laws_toReaderS.l0 k l ((l.map convR).take i ++ List.replicate n z118) (i : Int)) (l.map convR) := by
 intro n
 induction n with
 | zero =>
  intro i hi
  refine Ev.step (f := fun _ => some (l.map convR)) (fun k => ?_) (Ev.now _)
  rw [laws_toReaderS.l0, if_neg (by omega), List.replicate_zero, List.append_nil, List.take_of_length_le (by rw [List.length_map]; omega)]
 | succ n ih =>
  intro i hi
  have hlt : i < l.length := by omega
  have hlt' : i < (l.map convR).length := by rw [List.length_map]; exact hlt
  have hti : ((l.map convR).take i).length = i := by rw [List.length_take, List.length_map]; omega
  have hm := hs _ (List.getElem_mem hlt)
  refine Ev.step (f := fun k => (laws_toMeta.f k l[i].f1.f0 l[i].f1.f1 l[i].f1.f2 l[i].f1.f3).bind fun t => laws_toReaderS.l0 k l (((l.map convR).take i ++ z118 :: List.replicate n z118).set i ⟨l[i].f0, ⟨t.1, t.2.1, t.2.2.1, t.2.2.2⟩⟩) ((i + 1 : Nat) : Int)) (fun k => ?_) (Ev.bind (toM_ev _ _ _ _ hm.1 hm.2) ?_)
  ·rw [laws_toReaderS.l0, if_pos (by omega), if_pos (by omega), rd_T154_nat _ _ hlt, laws_toReader.f, wrap_in (by omega) (by omega), Int.toNat_natCast, List.replicate_succ]
   cases laws_toMeta.f k l[i].f1.f0 l[i].f1.f1 l[i].f1.f2 l[i].f1.f3 with
   | none => rfl
   | some t =>
    simp only [Option.bind_some]
    rw [if_pos (by simp; omega)]
    rfl
  ·have := set_front ((l.map convR).take i) (List.replicate n z118) z118 (convR l[i])
   rw [hti] at this
   show Ev (fun k => laws_toReaderS.l0 k l (((l.map convR).take i ++ z118 :: List.replicate n z118).set i (convR l[i])) _) _
   rw [this, show convR l[i] = (l.map convR)[i] by rw [List.getElem_map], List.take_append_getElem hlt']
   exact ih (i + 1) (by omega)
theorem toR_ev (l : List S154) (hl : l.length ≤ 1048576) (hs : ∀ s ∈ l, OKm s.f1.f3) : Ev (fun k => laws_toReaderS.f k l) (l.map convR) := by
 refine Ev.congr (f := fun k => laws_toReaderS.l0 k l ((l.map convR).take 0 ++ List.replicate l.length z118) 0) (fun k => ?_) (toR_go l hl hs l.length 0 (by omega))
 unfold laws_toReaderS.f
 rw [if_pos (by omega), if_pos (by rw [Int.toNat_natCast]; omega), Int.toNat_natCast, List.take_zero, List.nil_append]
def OKn (l : List S122) : Prop := l.length ≤ 1048576 ∧ ∀ s ∈ l, s.f1.length ≤ 1048576
theorem OKn_conv {l : List S183} (h : OKm l) : OKn (l.map convF) := ⟨by rw [List.length_map]; exact h.1, fun s hs => by obtain ⟨y, hy, rfl⟩ := List.mem_map.1 hs; exact h.2 y hy⟩
theorem eqR_go (l : List S118) (hl : l.length ≤ 1048576) (hs : ∀ s ∈ l, OKn s.f1.f3) : ∀ (n i : Nat), i + n = l.length → Ev (fun k => laws_eqReaderS.l0 k l l (i : Int)) true := by
 intro n
 induction n with
 | zero =>
  intro i hi
  exact Ev.step (f := fun _ => some true) (fun k => by rw [laws_eqReaderS.l0, if_neg (by omega)]) (Ev.now _)
 | succ n ih =>
  intro i hi
  have hlt : i < l.length := by omega
  have hm := hs _ (List.getElem_mem hlt)
  refine Ev.step (f := fun k => (laws_eqMeta.f k l[i].f1.f0 l[i].f1.f1 l[i].f1.f2 l[i].f1.f3 l[i].f1.f0 l[i].f1.f1 l[i].f1.f2 l[i].f1.f3).bind fun t => if t = true then laws_eqReaderS.l0 k l l ((i + 1 : Nat) : Int) else none) (fun k => ?_) (Ev.bind (eqM_ev _ _ _ _ hm.1 hm.2) ?_)
  ·rw [laws_eqReaderS.l0, if_pos (by omega), if_pos (by omega), if_pos (by omega), rd_T118_nat _ _ hlt, laws_eqReader.f, if_pos rfl, wrap_in (by omega) (by omega)]
   cases laws_eqMeta.f k l[i].f1.f0 l[i].f1.f1 l[i].f1.f2 l[i].f1.f3 l[i].f1.f0 l[i].f1.f1 l[i].f1.f2 l[i].f1.f3 with
   | none => rfl
   | some t => cases t <;> rfl
  ·simp only [if_true]
   exact ih (i + 1) (by omega)
theorem eqR_ev (l : List S118) (hl : l.length ≤ 1048576) (hs : ∀ s ∈ l, OKn s.f1.f3) : Ev (fun k => laws_eqReaderS.f k l l) true :=
 Ev.congr (fun k => by unfold laws_eqReaderS.f; rw [if_pos rfl]; rfl) (eqR_go l hl hs l.length 0 (by omega))
theorem szTx (a b c : Int) (fr : List S183) (pages : List ByteArray) (late : List S140) (n : Int) (u g f : List Int) (q : Int) (hm : INm fr) (hd : INd pages late) (hu : INi u) (hg : INi g) (hf : INi f) (x : Int) (h0 : 0 ≤ x) (hx : x ≤ 1048576) : ∃ r, Ev (fun k => laws_szTxn.f k a b c fr pages late n u g f q x) r ∧ (r < 0 ∨ (0 ≤ r ∧ r ≤ x ∧ OKm fr ∧ Small pages late ∧ u.length ≤ 1048576 ∧ g.length ≤ 1048576 ∧ f.length ≤ 1048576)) := by
 unfold laws_szTxn.f
 exact sz_step (szMx a b c fr hm x h0 hx) fun y y0 y1 => sz_end (szWx pages late n u g f hd hu hg hf y y0 (by omega))
theorem mhF : ∀ (n i : Nat) (l : List S122) (a : Int), i + n = l.length → 0 < a → a + n * 1048577 < 4000000000000000000 → l.length ≤ 2000000 → (∀ j (h : j < l.length), i ≤ j → l[j].f1.length ≤ 1048576) → ∃ l' c, 0 ≤ c ∧ c ≤ (n : Int) * 1048577 ∧ Ev (fun k => markF.l0 k l a (i : Int)) (a + c, l') ∧ l'.length = l.length ∧ (∀ j, j < i → l'[j]? = l[j]?) ∧ Ev (fun k => laws_heldFreeS.l0 k l' a (i : Int)) (a + c) := by
 intro n
 induction n with
 | zero =>
  intro i l a hi h0 h1 hl hs
  refine ⟨l, 0, by omega, by omega, Ev.step (f := fun _ => some (a + 0, l)) (fun k => ?_) (Ev.now _), rfl, fun _ _ => rfl, Ev.step (f := fun _ => some (a + 0)) (fun k => ?_) (Ev.now _)⟩
  ·rw [markF.l0, if_neg (by omega)]
   simp
  ·rw [laws_heldFreeS.l0, if_neg (by omega)]
   simp
 | succ n ih =>
  intro i l a hi h0 h1 hl hs
  have hlt0 : i < l.length := by omega
  have hsi := hs i hlt0 (Nat.le_refl _)
  obtain ⟨p, g1, g2⟩ := mhI_ev l[i].f1 (a + 1) (by omega) (by omega) (by omega)
  obtain ⟨l', c, c0, c1, e1, e2, e3, e4⟩ := ih (i + 1) (l.set i (⟨a, p⟩ : S122)) (a + 1 + l[i].f1.length) (by rw [List.length_set]; omega) (by omega) (by omega) (by rw [List.length_set]; exact hl) (fun j h hj => by
   rw [List.length_set] at h
   rw [List.getElem_set_ne (by omega)]
   exact hs j h (by omega))
  rw [List.length_set] at e2
  have hlt : i < l'.length := by omega
  have hat : l'[i]? = some (⟨a, p⟩ : S122) := by rw [e3 i (Nat.lt_succ_self i), List.getElem?_set_self (by omega)]
  have hget : l'[i] = (⟨a, p⟩ : S122) := by rw [List.getElem?_eq_getElem hlt] at hat; exact Option.some.inj hat
  have hn : a + 1 + (l[i].f1.length : Int) + c = a + (1 + (l[i].f1.length : Int) + c) := by omega
  rw [hn] at e1 e4
  refine ⟨l', 1 + (l[i].f1.length : Int) + c, by omega, by omega, Ev.step (f := fun k => (laws_markIntS.f k l[i].f1 (a + 1)).bind fun b => markF.l0 k (l.set i (⟨a, b.2⟩ : S122)) b.1 ((i + 1 : Nat) : Int)) (fun k => ?_) (Ev.bind g1 e1), e2, fun j hj => ?_, Ev.step (f := fun k => (laws_heldIntS.f k p (a + 1)).bind fun t => if t < 0 then none else laws_heldFreeS.l0 k l' t ((i + 1 : Nat) : Int)) (fun k => ?_) (Ev.bind g2 (by simp only [if_neg (show ¬ a + 1 + (l[i].f1.length : Int) < 0 by omega)]; exact e4))⟩
  ·rw [markF.l0, if_pos (by omega), if_pos (by omega), rd_T122_nat _ _ hlt0, wrap_in (x := a + 1) (by omega) (by omega), wrap_in (x := (i : Int) + 1) (by omega) (by omega), Int.toNat_natCast]
   rfl
  ·rw [e3 j (by omega), List.getElem?_set_ne (by omega)]
  ·rw [laws_heldFreeS.l0, if_pos (by omega), if_pos (by omega), rd_T122_nat _ _ hlt, hget, if_pos rfl, wrap_in (x := a + 1) (by omega) (by omega), wrap_in (x := (i : Int) + 1) (by omega) (by omega)]
   rfl
theorem mhF_ev (l : List S122) (a : Int) (h0 : 0 < a) (h1 : a + l.length * 1048577 < 4000000000000000000) (hl : OKn l) : ∃ l' c, 0 ≤ c ∧ c ≤ (l.length : Int) * 1048577 ∧ Ev (fun k => markF.l0 k l a 0) (a + c, l') ∧ Ev (fun k => laws_heldFreeS.f k l' a) (a + c) := by
 obtain ⟨l', c, c0, c1, e1, _, _, e4⟩ := mhF l.length 0 l a (by omega) h0 h1 (by have := hl.1; omega) (fun j h _ => hl.2 _ (List.getElem_mem h))
 exact ⟨l', c, c0, c1, e1, e4⟩
theorem mhR : ∀ (n i : Nat) (l : List S118) (a : Int), i + n = l.length → 0 < a → a + n * 1099512676356 < 3000000000000000000 → l.length ≤ 1048576 → (∀ j (h : j < l.length), i ≤ j → OKn l[j].f1.f3) → ∃ l' c, 0 ≤ c ∧ c ≤ (n : Int) * 1099512676356 ∧ Ev (fun k => markR.l0 k l a (i : Int)) (a + c, l') ∧ l'.length = l.length ∧ (∀ j, j < i → l'[j]? = l[j]?) ∧ Ev (fun k => laws_heldReaderS.l0 k l' a (i : Int)) (a + c) := by
 intro n
 induction n with
 | zero =>
  intro i l a hi h0 h1 hl hs
  refine ⟨l, 0, by omega, by omega, Ev.step (f := fun _ => some (a + 0, l)) (fun k => ?_) (Ev.now _), rfl, fun _ _ => rfl, Ev.step (f := fun _ => some (a + 0)) (fun k => ?_) (Ev.now _)⟩
  ·rw [markR.l0, if_neg (by omega)]
   simp
  ·rw [laws_heldReaderS.l0, if_neg (by omega)]
   simp
 | succ n ih =>
  intro i l a hi h0 h1 hl hs
  have hlt0 : i < l.length := by omega
  have hsi := hs i hlt0 (Nat.le_refl _)
  have hsl := hsi.1
  obtain ⟨p, d, d0, d1, g1, g2⟩ := mhF_ev l[i].f1.f3 (a + 4) (by omega) (by omega) hsi
  obtain ⟨x1, hx1⟩ : ∃ x : S118, x = ⟨a, ⟨a + 1, a + 2, a + 3, p⟩⟩ := ⟨_, rfl⟩
  obtain ⟨l', c, c0, c1, e1, e2, e3, e4⟩ := ih (i + 1) (l.set i x1) (a + 4 + d) (by rw [List.length_set]; omega) (by omega) (by omega) (by rw [List.length_set]; exact hl) (fun j h hj => by
   rw [List.length_set] at h
   rw [List.getElem_set_ne (by omega)]
   exact hs j h (by omega))
  rw [List.length_set] at e2
  have hlt : i < l'.length := by omega
  have hat : l'[i]? = some x1 := by rw [e3 i (Nat.lt_succ_self i), List.getElem?_set_self (by omega)]
  have hget : l'[i] = x1 := by rw [List.getElem?_eq_getElem hlt] at hat; exact Option.some.inj hat
  have hn : a + 4 + d + c = a + (4 + d + c) := by omega
  rw [hn] at e1 e4
  have w1 : wrap64 (a + 1) = a + 1 := wrap_in (by omega) (by omega)
  have w2 : wrap64 (a + 1 + 1) = a + 2 := by rw [show a + 1 + 1 = a + 2 by omega]; exact wrap_in (by omega) (by omega)
  have w3 : wrap64 (a + 2 + 1) = a + 3 := by rw [show a + 2 + 1 = a + 3 by omega]; exact wrap_in (by omega) (by omega)
  have w4 : wrap64 (a + 3 + 1) = a + 4 := by rw [show a + 3 + 1 = a + 4 by omega]; exact wrap_in (by omega) (by omega)
  refine ⟨l', 4 + d + c, by omega, by omega, Ev.step (f := fun k => (markF.l0 k l[i].f1.f3 (a + 4) 0).bind fun b => markR.l0 k (l.set i (⟨a, ⟨a + 1, a + 2, a + 3, b.2⟩⟩ : S118)) b.1 ((i + 1 : Nat) : Int)) (fun k => ?_) (Ev.bind g1 (by rw [← hx1]; exact e1)), e2, fun j hj => ?_, Ev.step (f := fun k => (laws_heldFreeS.f k p (a + 4)).bind fun t => if t < 0 then none else laws_heldReaderS.l0 k l' t ((i + 1 : Nat) : Int)) (fun k => ?_) (Ev.bind g2 (by simp only [if_neg (show ¬ a + 4 + d < 0 by omega)]; exact e4))⟩
  ·rw [markR.l0, if_pos (by omega), if_pos (by omega), rd_T118_nat _ _ hlt0, w1, w2, w3, w4, wrap_in (x := (i : Int) + 1) (by omega) (by omega), Int.toNat_natCast]
   rfl
  ·rw [e3 j (by omega), List.getElem?_set_ne (by omega)]
  ·rw [laws_heldReaderS.l0, if_pos (by omega), if_pos (by omega), rd_T118_nat _ _ hlt, hget, hx1, if_pos rfl, w1, if_pos rfl, w2, if_pos rfl, w3, if_pos rfl, w4, wrap_in (x := (i : Int) + 1) (by omega) (by omega)]
   rfl
theorem mhR_ev (l : List S118) (a : Int) (h0 : 0 < a) (h1 : a ≤ 1000000000000000000) (hl : l.length ≤ 1048576) (hs : ∀ s ∈ l, OKn s.f1.f3) : ∃ l' c, 0 ≤ c ∧ c ≤ 1152922604122669056 ∧ Ev (fun k => markR.l0 k l a 0) (a + c, l') ∧ Ev (fun k => laws_heldReaderS.f k l' a) (a + c) := by
 obtain ⟨l', c, c0, c1, e1, _, _, e4⟩ := mhR l.length 0 l a (by omega) h0 (by omega) hl (fun j h _ => hs _ (List.getElem_mem h))
 exact ⟨l', c, c0, by omega, e1, e4⟩
def EvP (P : Nat → Prop) : Prop := ∃ K, ∀ k, K ≤ k → P k
theorem EvP.and {P Q : Nat → Prop} (h : EvP P) (h2 : EvP Q) : EvP (fun k => P k ∧ Q k) := by
 obtain ⟨K, h⟩ := h
 obtain ⟨J, h2⟩ := h2
 exact ⟨K + J, fun k hk => ⟨h k (by omega), h2 k (by omega)⟩⟩
theorem EvP.now {P : Prop} (h : P) : EvP (fun _ => P) := ⟨0, fun _ _ => h⟩
theorem EvP.imp {P Q : Nat → Prop} (h : EvP P) (hi : ∀ k, P k → Q k) : EvP Q := by
 obtain ⟨K, h⟩ := h
 exact ⟨K, fun k hk => hi k (h k hk)⟩
theorem EvP.of {α : Type} {f : Nat → Option α} {r : α} (h : Ev f r) : EvP (fun k => f k = some r) := h
def INs (a : ((List ByteArray × List S140) × S69 × List S154 × (S69 × (List ByteArray × List S140 × Int × List Int × List Int × List Int) × Int) × Bool × Bool)) : Prop := INd a.1.1 a.1.2 ∧ INm a.2.1.f3 ∧ ((∀ s ∈ a.2.2.1, INm s.f1.f3) ∧ a.2.2.1.length ≤ 9223372036854775807) ∧ INm a.2.2.2.1.1.f3 ∧ INd a.2.2.2.1.2.1.1 a.2.2.2.1.2.1.2.1 ∧ INi a.2.2.2.1.2.1.2.2.2.1 ∧ INi a.2.2.2.1.2.1.2.2.2.2.1 ∧ INi a.2.2.2.1.2.1.2.2.2.2.2
def OKl (a : ((List ByteArray × List S140) × S69 × List S154 × (S69 × (List ByteArray × List S140 × Int × List Int × List Int × List Int) × Int) × Bool × Bool)) : Prop := Small a.1.1 a.1.2 ∧ OKm a.2.1.f3 ∧ (a.2.2.1.length ≤ 1048576 ∧ ∀ s ∈ a.2.2.1, OKm s.f1.f3) ∧ OKm a.2.2.2.1.1.f3 ∧ Small a.2.2.2.1.2.1.1 a.2.2.2.1.2.1.2.1 ∧ a.2.2.2.1.2.1.2.2.2.1.length ≤ 1048576 ∧ a.2.2.2.1.2.1.2.2.2.2.1.length ≤ 1048576 ∧ a.2.2.2.1.2.1.2.2.2.2.2.length ≤ 1048576
def OKs (d : ((List ByteArray × List S135) × S53 × List S118 × (S53 × (List ByteArray × List S135 × Int × List Int × List Int × List Int) × Int) × Bool × Bool)) : Prop := (d.1.1.length ≤ 1048576 ∧ d.1.2.length ≤ 1048576) ∧ OKn d.2.1.f3 ∧ (d.2.2.1.length ≤ 1048576 ∧ ∀ s ∈ d.2.2.1, OKn s.f1.f3) ∧ OKn d.2.2.2.1.1.f3 ∧ (d.2.2.2.1.2.1.1.length ≤ 1048576 ∧ d.2.2.2.1.2.1.2.1.length ≤ 1048576) ∧ d.2.2.2.1.2.1.2.2.2.1.length ≤ 1048576 ∧ d.2.2.2.1.2.1.2.2.2.2.1.length ≤ 1048576 ∧ d.2.2.2.1.2.1.2.2.2.2.2.length ≤ 1048576
theorem sz_store (a : ((List ByteArray × List S140) × S69 × List S154 × (S69 × (List ByteArray × List S140 × Int × List Int × List Int × List Int) × Int) × Bool × Bool)) (h : INs a) : ∃ r, Ev (fun k => szStore_f k a 1048576) r ∧ (r < 0 ∨ (¬ r < 0 ∧ OKl a)) := by
 obtain ⟨⟨a0, a1⟩, x, rs, ⟨y, ⟨l0, l1, l2, l3, l4, l5⟩, n⟩, bw, bf⟩ := a
 obtain ⟨h1, h2, h3, h4, h5, h6, h7, h8⟩ := h
 obtain ⟨r, e, h⟩ := sz_step (szDx a0 a1 h1 1048576 (by omega) (by omega)) (fun v v0 v1 => sz_step (szMx x.f0 x.f1 x.f2 x.f3 h2 v v0 (by omega)) (fun u u0 u1 => sz_step (szRx rs h3.1 h3.2 u u0 (by omega)) (fun t t0 t1 => sz_end (szTx y.f0 y.f1 y.f2 y.f3 l0 l1 l2 l3 l4 l5 n h4 h5 h6 h7 h8 t t0 (by omega)))))
 refine ⟨r, e, ?_⟩
 rcases h with h | ⟨g0, _, g1, g2, g3, g4, g5, g6, g7, g8⟩
 ·exact .inl h
 ·exact .inr ⟨by omega, g1, g2, g3, g4, g5, g6, g7, g8⟩
def convM (x : S69) : S53 := ⟨x.f0, x.f1, x.f2, x.f3.map convF⟩
def convS (a : ((List ByteArray × List S140) × S69 × List S154 × (S69 × (List ByteArray × List S140 × Int × List Int × List Int × List Int) × Int) × Bool × Bool)) : ((List ByteArray × List S135) × S53 × List S118 × (S53 × (List ByteArray × List S135 × Int × List Int × List Int × List Int) × Int) × Bool × Bool) := ((a.1.1, a.1.2.map conv), convM a.2.1, a.2.2.1.map convR, (convM a.2.2.2.1.1, (a.2.2.2.1.2.1.1, a.2.2.2.1.2.1.2.1.map conv, a.2.2.2.1.2.1.2.2.1, a.2.2.2.1.2.1.2.2.2.1, a.2.2.2.1.2.1.2.2.2.2.1, a.2.2.2.1.2.1.2.2.2.2.2), a.2.2.2.1.2.2), a.2.2.2.2.1, a.2.2.2.2.2)
theorem to_store (a : ((List ByteArray × List S140) × S69 × List S154 × (S69 × (List ByteArray × List S140 × Int × List Int × List Int × List Int) × Int) × Bool × Bool)) (h : OKl a) : EvP (fun k => ToStore k a (convS a)) ∧ OKs (convS a) := by
 obtain ⟨h1, h2, h3, h4, h5, h6, h7, h8⟩ := h
 have hW : EvP (fun k => ToWork k a.2.2.2.1.2.1 (convS a).2.2.2.1.2.1) := ((EvP.of (toD_ev _ _ h5)).and ((EvP.now rfl).and ((EvP.of (toI_ev _ h6)).and ((EvP.of (toI_ev _ h7)).and (EvP.of (toI_ev _ h8)))))).imp (fun k h => h)
 have hT : EvP (fun k => ToTxn k a.2.2.2.1 (convS a).2.2.2.1) := ((EvP.of (toM_ev _ _ _ _ h4.1 h4.2)).and (hW.and (EvP.now rfl))).imp (fun k h => h)
 refine ⟨((EvP.of (toD_ev _ _ h1)).and ((EvP.of (toM_ev _ _ _ _ h2.1 h2.2)).and ((EvP.of (toR_ev _ h3.1 h3.2)).and (hT.and (EvP.now ⟨rfl, rfl⟩))))).imp (fun k h => h), ?_⟩
 refine ⟨⟨h1.1.1, by show (a.1.2.map conv).length ≤ _; rw [List.length_map]; exact h1.2.1⟩, OKn_conv h2, ⟨by show (a.2.2.1.map convR).length ≤ _; rw [List.length_map]; exact h3.1, fun s hs => ?_⟩, OKn_conv h4, ⟨h5.1.1, by show (a.2.2.2.1.2.1.2.1.map conv).length ≤ _; rw [List.length_map]; exact h5.2.1⟩, h6, h7, h8⟩
 obtain ⟨t, ht, rfl⟩ := List.mem_map.1 hs
 exact OKn_conv (h3.2 t ht)
theorem eq_store (d : ((List ByteArray × List S135) × S53 × List S118 × (S53 × (List ByteArray × List S135 × Int × List Int × List Int × List Int) × Int) × Bool × Bool)) (h : OKs d) : EvP (fun k => EqStore k d) := by
 obtain ⟨⟨a0, a1⟩, x, rs, ⟨y, ⟨l0, l1, l2, l3, l4, l5⟩, n⟩, bw, bf⟩ := d
 obtain ⟨h1, h2, h3, h4, h5, h6, h7, h8⟩ := h
 have g := fun {n : Nat} (h : n ≤ 1048576) => Nat.le_trans h (show 1048576 ≤ 2000000 by decide)
 exact ((EvP.of (eqD_ev a0 a1 (g h1.1) (g h1.2))).and ((EvP.of (eqM_ev x.f0 x.f1 x.f2 x.f3 h2.1 h2.2)).and ((EvP.of (eqR_ev rs h3.1 h3.2)).and ((EvP.of (eqM_ev y.f0 y.f1 y.f2 y.f3 h4.1 h4.2)).and ((EvP.of (eqD_ev l0 l1 (g h5.1) (g h5.2))).and ((EvP.of (eqI_ev l3 (g h6))).and ((EvP.of (eqI_ev l4 (g h7))).and (EvP.of (eqI_ev l5 (g h8)))))))))).imp (fun k h => h)
theorem mark_store (d : ((List ByteArray × List S135) × S53 × List S118 × (S53 × (List ByteArray × List S135 × Int × List Int × List Int × List Int) × Int) × Bool × Bool)) (h : OKs d) : ∃ d' mk, EvP (fun k => MarkStore k d 1 d' mk) ∧ ¬ mk < 0 ∧ EvP (fun k => HeldStore k d' 1 mk) := by
 obtain ⟨⟨a0, a1⟩, x, rs, ⟨y, ⟨l0, l1, l2, l3, l4, l5⟩, n⟩, bw, bf⟩ := d
 obtain ⟨h1, h2, h3, h4, h5, h6, h7, h8⟩ := h
 have b0 : a0.length ≤ 1048576 := h1.1
 have b1 : a1.length ≤ 1048576 := h1.2
 have b2 : x.f3.length ≤ 1048576 := h2.1
 have b4 : y.f3.length ≤ 1048576 := h4.1
 have b5 : l0.length ≤ 1048576 := h5.1
 have b6 : l1.length ≤ 1048576 := h5.2
 have b7 : l3.length ≤ 1048576 := h6
 have b8 : l4.length ≤ 1048576 := h7
 have b9 : l5.length ≤ 1048576 := h8
 obtain ⟨p, q, m1, d1⟩ := mhD_ev a0 a1 1 (by omega) (by omega) (by omega) (by omega)
 obtain ⟨u1, hu1⟩ : ∃ u : Int, u = 1 + a0.length + 2 * a1.length := ⟨_, rfl⟩
 rw [← hu1] at m1 d1
 obtain ⟨fr, c2, c20, c21, m2, d2⟩ := mhF_ev x.f3 u1 (by omega) (by omega) h2
 obtain ⟨u2, hu2⟩ : ∃ u : Int, u = u1 + c2 := ⟨_, rfl⟩
 rw [← hu2] at m2 d2
 obtain ⟨rr, c3, c30, c31, m3, d3⟩ := mhR_ev rs u2 (by omega) (by omega) h3.1 h3.2
 obtain ⟨u3, hu3⟩ : ∃ u : Int, u = u2 + c3 := ⟨_, rfl⟩
 rw [← hu3] at m3 d3
 obtain ⟨gr, c4, c40, c41, m4, d4⟩ := mhF_ev y.f3 u3 (by omega) (by omega) h4
 obtain ⟨u4, hu4⟩ : ∃ u : Int, u = u3 + c4 := ⟨_, rfl⟩
 rw [← hu4] at m4 d4
 obtain ⟨p', q', m5, d5⟩ := mhD_ev l0 l1 u4 (by omega) (by omega) (by omega) (by omega)
 obtain ⟨u5, hu5⟩ : ∃ u : Int, u = u4 + l0.length + 2 * l1.length := ⟨_, rfl⟩
 rw [← hu5] at m5 d5
 obtain ⟨s3, m6, d6⟩ := mhI_ev l3 u5 (by omega) (by omega) (by omega)
 obtain ⟨u6, hu6⟩ : ∃ u : Int, u = u5 + l3.length := ⟨_, rfl⟩
 rw [← hu6] at m6 d6
 obtain ⟨s4, m7, d7⟩ := mhI_ev l4 u6 (by omega) (by omega) (by omega)
 obtain ⟨u7, hu7⟩ : ∃ u : Int, u = u6 + l4.length := ⟨_, rfl⟩
 rw [← hu7] at m7 d7
 obtain ⟨s5, m8, d8⟩ := mhI_ev l5 u7 (by omega) (by omega) (by omega)
 obtain ⟨u8, hu8⟩ : ∃ u : Int, u = u7 + l5.length := ⟨_, rfl⟩
 rw [← hu8] at m8 d8
 refine ⟨((p, q), ⟨x.f0, x.f1, x.f2, fr⟩, rr, (⟨y.f0, y.f1, y.f2, gr⟩, (p', q', l2, s3, s4, s5), n), bw, bf), u8, ?_, by omega, ?_⟩
 ·refine ((EvP.of m1).and ((EvP.of m2).and ((EvP.of m3).and ((EvP.of m4).and ((EvP.of m5).and ((EvP.of m6).and ((EvP.of m7).and (EvP.of m8)))))))).imp ?_
  rintro k ⟨f1, f2, f3, f4, f5, f6, f7, f8⟩
  exact ⟨u1, u2, u3, u4, u5, u6, u7, f1, f2, f3, f4, f5, f6, f7, f8, rfl⟩
 ·have hm := fun {a b c u u' : Int} {fr : List S122} (d : Ev (fun k => laws_heldFreeS.l0 k fr u 0) u') (hu : 0 ≤ u') => (show Ev (fun k => heldMeta_c_f k ⟨a, b, c, fr⟩ u) u' by show Ev (fun k => laws_heldMeta.f k a b c fr u) u'; unfold laws_heldMeta.f; exact hld d (by omega) (Ev.now _))
  refine ((EvP.of d1).and ((EvP.of (hm (a := x.f0) (b := x.f1) (c := x.f2) d2 (by omega))).and ((EvP.of d3).and ((EvP.of (hm (a := y.f0) (b := y.f1) (c := y.f2) d4 (by omega))).and ((EvP.of d5).and ((EvP.of d6).and ((EvP.of d7).and (EvP.of d8)))))))).imp ?_
  rintro k ⟨f1, f2, f3, f4, f5, f6, f7, f8⟩
  exact ⟨u1, u2, u3, f1, by omega, f2, by omega, f3, by omega, ⟨u4, f4, by omega, ⟨u5, u6, u7, f5, by omega, f6, by omega, f7, by omega, f8, by omega⟩, by omega⟩, by omega⟩
def CloneImpl (k : Nat) (d : ((List ByteArray × List S135) × S53 × List S118 × (S53 × (List ByteArray × List S135 × Int × List Int × List Int × List Int) × Int) × Bool × Bool)) : Prop := impl_cloneDisk.f d.1.1 d.1.2 = some (d.1.1, d.1.2) ∧ impl_cloneMeta.f k d.2.1.f0 d.2.1.f1 d.2.1.f2 d.2.1.f3 = some (d.2.1.f0, d.2.1.f1, d.2.1.f2, d.2.1.f3) ∧ (∀ r ∈ d.2.2.1, impl_cloneMeta.f k r.f1.f0 r.f1.f1 r.f1.f2 r.f1.f3 = some (r.f1.f0, r.f1.f1, r.f1.f2, r.f1.f3)) ∧ impl_cloneMeta.f k d.2.2.2.1.1.f0 d.2.2.2.1.1.f1 d.2.2.2.1.1.f2 d.2.2.2.1.1.f3 = some (d.2.2.2.1.1.f0, d.2.2.2.1.1.f1, d.2.2.2.1.1.f2, d.2.2.2.1.1.f3) ∧ ((d.2.2.2.1.2.1.1.length ≤ 2000000 ∧ d.2.2.2.1.2.1.2.1.length ≤ 2000000) ∧ d.2.2.2.1.2.1.2.2.2.1.length ≤ 2000000 ∧ d.2.2.2.1.2.1.2.2.2.2.1.length ≤ 2000000 ∧ d.2.2.2.1.2.1.2.2.2.2.2.length ≤ 2000000) ∧ d.2.2.1.length ≤ 2000000
def ImplStop (k : Nat) (d z : ((List ByteArray × List S135) × S53 × List S118 × (S53 × (List ByteArray × List S135 × Int × List Int × List Int × List Int) × Int) × Bool × Bool)) (c : Int) : Prop := CloneImpl k d ∧ ((d.2.2.2.2.1 = false ∧ z = d ∧ c = 2) ∨ (d.2.2.2.2.1 = true ∧ c = 0 ∧ ∃ e0 e1, impl_SyncDisk.f k d.2.2.2.1.2.1.1 d.2.2.2.1.2.1.2.1 = some (e0, e1) ∧ z = ((e0, e1), d.2.1, d.2.2.1, (⟨0, 0, 0, []⟩, ([], [], 0, [], [], []), 0), false, false)))
theorem implStop_c (k : Nat) (d z : ((List ByteArray × List S135) × S53 × List S118 × (S53 × (List ByteArray × List S135 × Int × List Int × List Int × List Int) × Int) × Bool × Bool)) (c : Int) {cs : List Value} (w : World) (h : kStore.K w d cs) (hf : ImplStop k d z c) :
  Calls Try.prog 36 #[.agg cs.toArray] w fun e w' => ∃ ds : List Value, e = .returned (.tuple #[.agg ds.toArray, .int .i64 c]) ∧ kStore.M w' w.heap.size (Fr w w') z ds ∧ Below w.heap.size w w' := by
 obtain ⟨⟨a0, a1⟩, x, rs, ⟨y, ⟨l0, l1, l2, l3, l4, l5⟩, n⟩, bw, bf⟩ := d
 obtain ⟨⟨f1, f2, f3, f4, f5, hl⟩, ⟨hw, rfl, rfl⟩ | ⟨hw, rfl, e0, e1, f6, rfl⟩⟩ := hf
 ·cases hw
  exact implStop_f k a0 a1 x rs y l0 l1 l2 l3 l4 l5 n bf w h f1 f2 f3 f4 f5 hl
 ·cases hw
  exact implStop_t k a0 a1 x rs y l0 l1 l2 l3 l4 l5 n bf e0 e1 w h f1 f2 f3 f4 f5 hl f6
def CloneSpec (k : Nat) (d : ((List ByteArray × List S135) × S53 × List S118 × (S53 × (List ByteArray × List S135 × Int × List Int × List Int × List Int) × Int) × Bool × Bool)) : Prop := (d.1.1.length ≤ 2000000 ∧ d.1.2.length ≤ 2000000) ∧ SmallM d.2.1 ∧ (∀ r ∈ d.2.2.1, SmallM r.f1) ∧ SmallM d.2.2.2.1.1 ∧ ((d.2.2.2.1.2.1.1.length ≤ 2000000 ∧ d.2.2.2.1.2.1.2.1.length ≤ 2000000) ∧ d.2.2.2.1.2.1.2.2.2.1.length ≤ 2000000 ∧ d.2.2.2.1.2.1.2.2.2.2.1.length ≤ 2000000 ∧ d.2.2.2.1.2.1.2.2.2.2.2.length ≤ 2000000) ∧ d.2.2.1.length ≤ 2000000
def SpecStop (k : Nat) (d z : ((List ByteArray × List S135) × S53 × List S118 × (S53 × (List ByteArray × List S135 × Int × List Int × List Int × List Int) × Int) × Bool × Bool)) (c : Int) : Prop := CloneSpec k d ∧ ((d.2.2.2.2.1 = false ∧ z = d ∧ c = 2) ∨ (d.2.2.2.2.1 = true ∧ c = 0 ∧ ∃ e0 e1, spec_SyncDisk.f k d.2.2.2.1.2.1.1 d.2.2.2.1.2.1.2.1 = some (e0, e1) ∧ z = ((e0, e1), d.2.1, d.2.2.1, (⟨0, 0, 0, []⟩, ([], [], 0, [], [], []), 0), false, false)))
theorem specStop_c (k : Nat) (d z : ((List ByteArray × List S135) × S53 × List S118 × (S53 × (List ByteArray × List S135 × Int × List Int × List Int × List Int) × Int) × Bool × Bool)) (c : Int) {cs : List Value} (w : World) (h : kStore.K w d cs) (hf : SpecStop k d z c) :
  Calls Try.prog 35 #[.agg cs.toArray] w fun e w' => ∃ ds : List Value, e = .returned (.tuple #[.agg ds.toArray, .int .i64 c]) ∧ kStore.M w' w.heap.size (Fr w w') z ds ∧ Below w.heap.size w w' := by
 obtain ⟨⟨a0, a1⟩, x, rs, ⟨y, ⟨l0, l1, l2, l3, l4, l5⟩, n⟩, bw, bf⟩ := d
 obtain ⟨⟨f1, f2, f3, f4, f5, hl⟩, ⟨hw, rfl, rfl⟩ | ⟨hw, rfl, e0, e1, f6, rfl⟩⟩ := hf
 ·cases hw
  exact specStop_f a0 a1 x rs y l0 l1 l2 l3 l4 l5 n bf w h f1 f2 f3 f4 f5 hl
 ·cases hw
  exact specStop_t k a0 a1 x rs y l0 l1 l2 l3 l4 l5 n bf e0 e1 w h f1 f2 f3 f4 f5 hl f6
theorem stop_small0 (k : Nat) (a0 : ((List ByteArray × List S140) × S69 × List S154 × (S69 × (List ByteArray × List S140 × Int × List Int × List Int × List Int) × Int) × Bool × Bool)) (r0 : Int) {cs0 : List Value} (w : World) (h0 : kStoreL.K w a0 cs0) (hs0 : szStore_f k a0 1048576 = some r0) (hr0 : r0 < 0) :
  Calls Try.prog 7 #[.agg cs0.toArray] w fun e w' => e = .returned (.bool true) ∧ Below w.heap.size w w' := by
 have KA0 := Aside0.mk h0; have LA0 := Aside0.mk (show cs0.length = 20 from Kd.K_len _ h0); clear h0
 have HS0 := Aside0.mk hs0; clear hs0
 replace hr0 : decide (r0 < 0) = true := decide_eq_true hr0
 have O := Aside0.mk (Nat.le_refl w.heap.size)
 have E := Aside0.mk (Env.start w)
 go_enter Try.func7, Try.ntmps7
 go_wp2_with (first | ((with_reducible refine gate_dst (N := 14) rfl ?_); replace O := Aside0.mk (And.intro E.out.le O.out); replace E := Aside0.mk (E.out.alloc cs0 74 (g := w.heap.size) rfl); refine ev_loadpart rfl 74 _ rfl w.heap.size 0 [] cs0 [] _ rfl (E.out.box 0 rfl) (by first | rfl | (simp only [aA, aN, aL]; first | done | rfl)) (rfl) Try.underlying74 rfl (by rw [LA0.out]; kernel_rfl) ?_))
 ((with_reducible refine (szStore_c k a0 1048576 r0 _ (E.out.K KA0.out) HS0.out).mono ?_); rintro e w1_ ⟨rfl, hb⟩)
 replace E := Aside0.mk (E.out.call hb); clear hb
 go_wp2_with fail
 go_ret
 exact ⟨rfl, E.out.below⟩
def stop_great_T10 : Bool × List (List Nat × List Nat) := (true, [([], []), ([], []), ([1], [1]), ([0, 2, 2], [0, 2]), ([3], [3])])
def stop_great_B10 : List Nat := [0, 0, 2, 7, 15]
theorem stop_great_ok10_0 : regT (opsOf Try.f7 10) stop_great_T10 stop_great_B10 [] (.t 0 (.t 1 (.e 2 (.e 3 (.p 4 .d))))) = true := by kernel_rfl
theorem stop_great (k : Nat) (a0 : ((List ByteArray × List S140) × S69 × List S154 × (S69 × (List ByteArray × List S140 × Int × List Int × List Int × List Int) × Int) × Bool × Bool)) (r0 : Int) (d0 d0_ : ((List ByteArray × List S135) × S53 × List S118 × (S53 × (List ByteArray × List S135 × Int × List Int × List Int × List Int) × Int) × Bool × Bool)) (z0 z0_ : ((List ByteArray × List S135) × S53 × List S118 × (S53 × (List ByteArray × List S135 × Int × List Int × List Int × List Int) × Int) × Bool × Bool)) (z1 : Int) (mk0 : Int) (mg0 : Int) {cs0 : List Value} (w : World) (h0 : kStoreL.K w a0 cs0) (hs0 : szStore_f k a0 1048576 = some r0) (ht0 : ToStore k a0 d0) (hsp : SpecStop k d0  z0 z1) (him : ImplStop k d0  z0 z1) (heq0 : EqStore k z0) (hex0 : EqStore k d0) (hmk0 : MarkStore k d0 1 d0_ mk0) (hmg0 : MarkStore k z0 1 z0_ mg0) (hhd0 : HeldStore k z0_ 1 mg0) (hr0 : ¬ r0 < 0) (hm : ¬ mk0 < 0) (hg0 : ¬ mg0 < 0) :
  Calls Try.prog 7 #[.agg cs0.toArray] w fun e w' => e = .returned (.bool true) ∧ Below w.heap.size w w' := by
 have KA0 := Aside0.mk h0; have LA0 := Aside0.mk (show cs0.length = 20 from Kd.K_len _ h0); clear h0
 have HS0 := Aside0.mk hs0; clear hs0
 have HT0 := Aside0.mk ht0; clear ht0
 have HSP := Aside0.mk hsp; clear hsp
 have HIM := Aside0.mk him; clear him
 have HEQ0 := Aside0.mk heq0; clear heq0
 have HEX0 := Aside0.mk hex0; clear hex0
 have HMK0 := Aside0.mk hmk0; clear hmk0
 have HMG0 := Aside0.mk hmg0; clear hmg0
 have HHD0 := Aside0.mk hhd0; clear hhd0
 replace hr0 : decide (r0 < 0) = false := decide_eq_false hr0
 replace hm : decide (mk0 < 0) = false := decide_eq_false hm
 replace hg0 : decide (mg0 < 0) = false := decide_eq_false hg0
 have O := Aside0.mk (Nat.le_refl w.heap.size)
 have E := Aside0.mk (Env.start w)
 go_enter Try.func7, Try.ntmps7
 go_wp2_with (first | ((with_reducible refine gate_dst (N := 14) rfl ?_); replace O := Aside0.mk (And.intro E.out.le O.out); replace E := Aside0.mk (E.out.alloc cs0 74 (g := w.heap.size) rfl); refine ev_loadpart rfl 74 _ rfl w.heap.size 0 [] cs0 [] _ rfl (E.out.box 0 rfl) (by first | rfl | (simp only [aA, aN, aL]; first | done | rfl)) (rfl) Try.underlying74 rfl (by rw [LA0.out]; kernel_rfl) ?_))
 ((with_reducible refine (szStore_c k a0 1048576 r0 _ (E.out.K KA0.out) HS0.out).mono ?_); rintro e w1_ ⟨rfl, hb⟩)
 replace E := Aside0.mk (E.out.call hb); clear hb
 go_wp2_with (first | ((with_reducible refine gate_dst (N := 20) rfl ?_); refine ev_loadpart rfl 74 _ rfl w.heap.size 0 [] cs0 [] _ rfl (E.out.box 0 rfl) (by first | rfl | (simp only [aA, aN, aL]; first | done | rfl)) (rfl) Try.underlying74 rfl (by rw [LA0.out]; kernel_rfl) ?_))
 ((with_reducible refine (toStore_c k a0 d0 _ (E.out.K KA0.out) HT0.out).mono ?_); rintro e w2_ ⟨d3_, rfl, Md3_, hb⟩)
 have q := E.out.made4 O.out 20 rfl Md3_ hb; clear O E Md3_ hb; obtain ⟨n4_, m5_, Ld3_, Od3_, O, E⟩ := q
 go_wp2_with fail
 ((with_reducible refine (specStop_c k d0  z0 z1 _ (E.out.mk_ 0 rfl) HSP.out).mono ?_); rintro e w6_ ⟨d7_, rfl, Md7_, hb⟩)
 have q := E.out.made4 O.out 20 rfl Md7_ hb; clear O E Md7_ hb; obtain ⟨n8_, m9_, Ld7_, Od7_, O, E⟩ := q
 go_wp2_with (first | ((with_reducible refine gate_store (t := 58) (p := 4) rfl ?_); replace O := Aside0.mk (And.intro E.out.le O.out); replace E := Aside0.mk (E.out.alloc Z58 58 (g := w6_.heap.size) rfl); refine ev_storepart rfl 58 _ _ rfl rfl w6_.heap.size 0 d7_ [] Z58 [] rfl rfl (E.out.box 0 rfl) (by first | rfl | (simp only [aA, aN, aL]; first | done | rfl)) (rfl) (by rw [Ld7_.out]; rfl) (by rw [Ld7_.out]; kernel_rfl) Od7_.out ?_; intro W10_ hp hn; replace E := E.out.put2 0 hp hn (by have o := O.out; dsimp only [Off, OffA, Fct.box, Fct.made, List.set]; and_intros <;> first | trivial | omega); clear hp hn) | ((with_reducible refine gate_dst (N := 25) rfl ?_); refine ev_loadpart rfl 74 _ rfl w.heap.size 0 [] cs0 [] _ rfl (E.out.box 3 rfl) (by first | rfl | (simp only [aA, aN, aL]; first | done | rfl)) (rfl) Try.underlying74 rfl (by rw [LA0.out]; kernel_rfl) ?_))
 ((with_reducible refine (toStore_c k a0 d0 _ (E.out.K KA0.out) HT0.out).mono ?_); rintro e w11_ ⟨d12_, rfl, Md12_, hb⟩)
 have q := E.out.made4 O.out 20 rfl Md12_ hb; clear O E Md12_ hb; obtain ⟨n13_, m14_, Ld12_, Od12_, O, E⟩ := q
 go_wp2_with (first | ((with_reducible refine gate_store (t := 58) (p := 6) rfl ?_); replace O := Aside0.mk (And.intro E.out.le O.out); replace E := Aside0.mk (E.out.alloc Z58 58 (g := w11_.heap.size) rfl); refine ev_storepart rfl 58 _ _ rfl rfl w11_.heap.size 0 d12_ [] Z58 [] rfl rfl (E.out.box 0 rfl) (by first | rfl | (simp only [aA, aN, aL]; first | done | rfl)) (rfl) (by rw [Ld12_.out]; rfl) (by rw [Ld12_.out]; kernel_rfl) Od12_.out ?_; intro W15_ hp hn; replace E := E.out.put2 0 hp hn (by have o := O.out; dsimp only [Off, OffA, Fct.box, Fct.made, List.set]; and_intros <;> first | trivial | omega); clear hp hn) | ((with_reducible refine gate_dst (N := 28) rfl ?_); refine ev_loadpart rfl 58 _ rfl w11_.heap.size 0 [] d12_ [] _ rfl (E.out.box 0 rfl) (by first | rfl | (simp only [aA, aN, aL]; first | done | rfl)) (rfl) Try.underlying58 rfl (by rw [Ld12_.out]; kernel_rfl) ?_))
 ((with_reducible refine (implStop_c k d0  z0 z1 _ (E.out.mk_ 1 rfl) HIM.out).mono ?_); rintro e w16_ ⟨d17_, rfl, Md17_, hb⟩)
 have q := E.out.made4 O.out 20 rfl Md17_ hb; clear O E Md17_ hb; obtain ⟨n18_, m19_, Ld17_, Od17_, O, E⟩ := q
 go_wp2_with (first | ((with_reducible refine gate_store (t := 58) (p := 7) rfl ?_); replace O := Aside0.mk (And.intro E.out.le O.out); replace E := Aside0.mk (E.out.alloc Z58 58 (g := w16_.heap.size) rfl); refine ev_storepart rfl 58 _ _ rfl rfl w16_.heap.size 0 d17_ [] Z58 [] rfl rfl (E.out.box 0 rfl) (by first | rfl | (simp only [aA, aN, aL]; first | done | rfl)) (rfl) (by rw [Ld17_.out]; rfl) (by rw [Ld17_.out]; kernel_rfl) Od17_.out ?_; intro W20_ hp hn; replace E := E.out.put2 0 hp hn (by have o := O.out; dsimp only [Off, OffA, Fct.box, Fct.made, List.set]; and_intros <;> first | trivial | omega); clear hp hn) | ((with_reducible refine gate_dst (N := 32) rfl ?_); refine ev_loadpart rfl 58 _ rfl w16_.heap.size 0 [] d17_ [] _ rfl (E.out.box 0 rfl) (by first | rfl | (simp only [aA, aN, aL]; first | done | rfl)) (rfl) Try.underlying58 rfl (by rw [Ld17_.out]; kernel_rfl) ?_) | ((with_reducible refine gate_dst (N := 33) rfl ?_); refine ev_loadpart rfl 58 _ rfl w6_.heap.size 0 [] d7_ [] _ rfl (E.out.box 4 rfl) (by first | rfl | (simp only [aA, aN, aL]; first | done | rfl)) (rfl) Try.underlying58 rfl (by rw [Ld7_.out]; kernel_rfl) ?_))
 ((with_reducible refine (eqStore_c k z0 _ (E.out.mk_ 1 rfl) (E.out.mk_ 5 rfl) HEQ0.out).mono ?_); rintro e w21_ ⟨rfl, hb⟩)
 replace E := Aside0.mk (E.out.call hb); clear hb
 go_upto_region 10 with (fail)
 replace E := Aside0.mk E.out.drew
 refine tre_start stop_great_ok10_0 (S := fun w' => w'.heap[w11_.heap.size]? = some (.cells (([] ++ (d12_ ++ [])) : List Value).toArray 58 (0, 0)) ∧ w'.heap[w.heap.size]? = some (.cells (cs0 : List Value).toArray 74 (0, 0)) ∧ True) (by kernel_rfl) (fun _ _ _ _ h => h) ⟨(E.out.box 2 rfl), (E.out.box 7 rfl), trivial⟩ (fun hHeld => ?_)
 generalize hq : World.drew _ = w22_ at hHeld ⊢; replace E := E.out.to hq; clear hq
 refine tre_loadpart (a' := ?ax23_) rfl rfl (by rfl) 58 _ rfl w11_.heap.size 0 [] d12_ [] _ rfl (fun w' hs => hs.1) (by first | rfl | (simp only [aA, aN, aL]; first | done | rfl)) (rfl) Try.underlying58 rfl (by rw [Ld12_.out]; kernel_rfl) ?px23_ ?kx23_
 case px23_ => (show Act.put _ (some _) _ = _; simp only [Act.put, s_A, s_0, s_1, i64_w]; try rfl)
 refine tre_loadpart (a' := ?ax24_) rfl rfl (by rfl) 74 _ rfl w.heap.size 0 [] cs0 [] _ rfl (fun w' hs => hs.2.1) (by first | rfl | (simp only [aA, aN, aL]; first | done | rfl)) (rfl) Try.underlying74 rfl (by rw [LA0.out]; kernel_rfl) ?px24_ ?kx24_
 case px24_ => (show Act.put _ (some _) _ = _; simp only [Act.put, s_A, s_0, s_1, i64_w]; try rfl)
 refine tre_e rfl (ev1_call rfl Try.func33 (by kernel_rfl) rfl #[.agg cs0.toArray] (by rfl) rfl (by (try simp only [List.map_toArray, List.map_cons, List.map_nil]); first | done | rfl) ?_)
 with_reducible refine (toStore_c k a0 d0 _ (E.out.K KA0.out) HT0.out).mono ?_
 rintro e w25_ ⟨d26_, rfl, Md26_, hb⟩
 have q := E.out.made4 O.out 20 rfl Md26_ hb; clear O E Md26_ hb; obtain ⟨n27_, m28_, Ld26_, Od26_, O, E⟩ := q
 refine ⟨_, rfl, ⟨(E.out.box 3 rfl), (E.out.box 8 rfl), trivial⟩, (fun hHeld => ?_)⟩
 refine tre_norm (a' := ?_) ?_ ?_; rotate_left; (· show Act.put _ (some 43) _ = _; simp only [Act.put, s_A, s_0, s_1, i64_w]; try rfl)
 refine tre_e rfl (ev1_call rfl Try.func26 (by kernel_rfl) rfl #[.agg d12_.toArray, .agg d26_.toArray] (by rfl) rfl (by (try simp only [List.map_toArray, List.map_cons, List.map_nil]); first | done | rfl) ?_)
 with_reducible refine (eqStore_c k d0 _ (E.out.mk_ 4 rfl) (E.out.mk_ 0 rfl) HEX0.out).mono ?_
 rintro e w29_ ⟨rfl, hb⟩
 replace E := Aside0.mk (E.out.call hb); clear hb
 refine ⟨_, rfl, ⟨(E.out.box 3 rfl), (E.out.box 8 rfl), trivial⟩, (fun hHeld => ?_)⟩
 refine tre_norm (a' := ?_) ?_ ?_; rotate_left; (· show Act.put _ (some 44) _ = _; simp only [Act.put, s_A, s_0, s_1, i64_w]; try rfl)
 (refine tre_p (v := ?_) (a' := ?_) rfl rfl (Or.inl ⟨by rfl, ?_⟩) ?_ ?_; rotate_left; (· intro w'; go_simp; with_reducible rfl); rotate_left; (· show Act.put _ (some _) _ = _; simp only [Act.put, s_A, s_0, s_1, i64_w]; try rfl))
 refine tre_done ?_
 clear hHeld
 go_wp2_with (first | ((with_reducible refine gate_dst (N := 46) rfl ?_); refine ev_loadpart rfl 58 _ rfl w11_.heap.size 0 [] d12_ [] _ rfl (E.out.box 3 rfl) (by first | rfl | (simp only [aA, aN, aL]; first | done | rfl)) (rfl) Try.underlying58 rfl (by rw [Ld12_.out]; kernel_rfl) ?_))
 ((with_reducible refine (markStore_c k d0 1 d0_ mk0 _ w _ E.out.below (E.out.mbound 4 rfl) (E.out.made 4 rfl) HMK0.out).mono ?_); rintro e w30_ ⟨rfl, M, hB, hK⟩)
 replace E := Aside0.mk (E.out.marked 4 rfl M hB hK (by have o := O.out; simp only [Off2, Off2.Off2A, List.set_cons_zero, List.set_cons_succ, Fct.box, Fct.made]; and_intros <;> first | trivial | omega)); clear M hB hK
 go_wp2_with (first | ((with_reducible refine gate_dst (N := 52) rfl ?_); refine ev_loadpart_w (by rfl) 58 _ rfl w16_.heap.size 0 [] d17_ [] _ rfl (E.out.box 1 rfl) (by first | rfl | (simp only [aA, aN, aL]; first | done | rfl)) (rfl) Try.underlying58 rfl (by rw [Ld17_.out]; kernel_rfl) ?_) | ((with_reducible refine gate_dst (N := 53) rfl ?_); refine ev_loadpart_w (by rfl) 58 _ rfl w6_.heap.size 0 [] d7_ [] _ rfl (E.out.box 5 rfl) (by first | rfl | (simp only [aA, aN, aL]; first | done | rfl)) (rfl) Try.underlying58 rfl (by rw [Ld7_.out]; kernel_rfl) ?_))
 ((with_reducible refine (eqStore_c k z0 _ (E.out.mk_ 2 rfl) (E.out.mk_ 6 rfl) HEQ0.out).mono ?_); rintro e w31_ ⟨rfl, hb⟩)
 replace E := Aside0.mk (E.out.call hb); clear hb
 go_wp2_with (first | ((with_reducible refine gate_dst (N := 62) rfl ?_); refine ev_loadpart rfl 58 _ rfl w16_.heap.size 0 [] d17_ [] _ rfl (E.out.box 1 rfl) (by first | rfl | (simp only [aA, aN, aL]; first | done | rfl)) (rfl) Try.underlying58 rfl (by rw [Ld17_.out]; kernel_rfl) ?_))
 ((with_reducible refine (markStore_c k z0 1 z0_ mg0 _ w _ E.out.below (E.out.mbound 2 rfl) (E.out.made 2 rfl) HMG0.out).mono ?_); rintro e w32_ ⟨rfl, M, hB, hK⟩)
 replace E := Aside0.mk (E.out.marked 2 rfl M hB hK (by have o := O.out; simp only [Off2, Off2.Off2A, List.set_cons_zero, List.set_cons_succ, Fct.box, Fct.made]; and_intros <;> first | trivial | omega)); clear M hB hK
 go_wp2_with (first | ((with_reducible refine gate_dst (N := 65) rfl ?_); refine ev_loadpart rfl 58 _ rfl w16_.heap.size 0 [] d17_ [] _ rfl (E.out.box 1 rfl) (by first | rfl | (simp only [aA, aN, aL]; first | done | rfl)) (rfl) Try.underlying58 rfl (by rw [Ld17_.out]; kernel_rfl) ?_))
 ((with_reducible refine (heldStore_c k z0_ 1 mg0 _ (E.out.mk_ 2 rfl) HHD0.out).mono ?_); rintro e w33_ ⟨rfl, hb⟩)
 replace E := Aside0.mk (E.out.call hb); clear hb
 go_wp2_with (first | ((with_reducible refine gate_dst (N := 74) rfl ?_); refine ev_loadpart rfl 74 _ rfl w.heap.size 0 [] cs0 [] _ rfl (E.out.box 8 rfl) (by first | rfl | (simp only [aA, aN, aL]; first | done | rfl)) (rfl) Try.underlying74 rfl (by rw [LA0.out]; kernel_rfl) ?_))
 ((with_reducible refine (toStore_c k a0 d0 _ (E.out.K KA0.out) HT0.out).mono ?_); rintro e w34_ ⟨d35_, rfl, Md35_, hb⟩)
 have q := E.out.made4 O.out 20 rfl Md35_ hb; clear O E Md35_ hb; obtain ⟨n36_, m37_, Ld35_, Od35_, O, E⟩ := q
 go_wp2_with fail
 ((with_reducible refine (implStop_c k d0  z0 z1 _ (E.out.mk_ 0 rfl) HIM.out).mono ?_); rintro e w38_ ⟨d39_, rfl, Md39_, hb⟩)
 have q := E.out.made4 O.out 20 rfl Md39_ hb; clear O E Md39_ hb; obtain ⟨n40_, m41_, Ld39_, Od39_, O, E⟩ := q
 go_wp2_with (first | ((with_reducible refine gate_store (t := 58) (p := 12) rfl ?_); replace O := Aside0.mk (And.intro E.out.le O.out); replace E := Aside0.mk (E.out.alloc Z58 58 (g := w38_.heap.size) rfl); refine ev_storepart rfl 58 _ _ rfl rfl w38_.heap.size 0 d39_ [] Z58 [] rfl rfl (E.out.box 0 rfl) (by first | rfl | (simp only [aA, aN, aL]; first | done | rfl)) (rfl) (by rw [Ld39_.out]; rfl) (by rw [Ld39_.out]; kernel_rfl) Od39_.out ?_; intro W42_ hp hn; replace E := E.out.put2 0 hp hn (by have o := O.out; dsimp only [Off, OffA, Fct.box, Fct.made, List.set]; and_intros <;> first | trivial | omega); clear hp hn) | ((with_reducible refine gate_dst (N := 79) rfl ?_); refine ev_loadpart rfl 58 _ rfl w38_.heap.size 0 [] d39_ [] _ rfl (E.out.box 0 rfl) (by first | rfl | (simp only [aA, aN, aL]; first | done | rfl)) (rfl) Try.underlying58 rfl (by rw [Ld39_.out]; kernel_rfl) ?_) | ((with_reducible refine gate_dst (N := 80) rfl ?_); refine ev_loadpart rfl 58 _ rfl w6_.heap.size 0 [] d7_ [] _ rfl (E.out.box 8 rfl) (by first | rfl | (simp only [aA, aN, aL]; first | done | rfl)) (rfl) Try.underlying58 rfl (by rw [Ld7_.out]; kernel_rfl) ?_))
 ((with_reducible refine (eqStore_c k z0 _ (E.out.mk_ 1 rfl) (E.out.mk_ 9 rfl) HEQ0.out).mono ?_); rintro e w43_ ⟨rfl, hb⟩)
 replace E := Aside0.mk (E.out.call hb); clear hb
 go_wp2_with (first | ((with_reducible refine gate_dst (N := 88) rfl ?_); refine ev_loadpart rfl 58 _ rfl w16_.heap.size 0 [] d17_ [] _ rfl (E.out.box 4 rfl) (by first | rfl | (simp only [aA, aN, aL]; first | done | rfl)) (rfl) Try.underlying58 rfl (by rw [Ld17_.out]; kernel_rfl) ?_))
 ((with_reducible refine (heldStore_c k z0_ 1 mg0 _ (E.out.mk_ 5 rfl) HHD0.out).mono ?_); rintro e w44_ ⟨rfl, hb⟩)
 replace E := Aside0.mk (E.out.call hb); clear hb
 go_wp2_with fail
 go_ret
 exact ⟨rfl, E.out.below⟩
theorem cloneM_go (l : List S122) (f0 f1 f2 : Int) (hl : l.length ≤ 1048576) (hs : ∀ s ∈ l, s.f1.length ≤ 1048576) : ∀ (n i : Nat), i + n = l.length → Ev (fun k => impl_cloneMeta.l0 k (l.take i) l (l.length : Int) (i : Int) f0 f1 f2 l) (f0, f1, f2, l) := by
 intro n
 induction n with
 | zero =>
  intro i hi
  refine Ev.step (f := fun _ => some (f0, f1, f2, l)) (fun k => ?_) (Ev.now _)
  rw [impl_cloneMeta.l0, if_neg (by omega), List.take_of_length_le (by omega)]
 | succ n ih =>
  intro i hi
  have hlt : i < l.length := by omega
  have hsi := hs _ (List.getElem_mem hlt)
  refine Ev.step (f := fun k => impl_cloneMeta.l0 k (l.take (i + 1)) l (l.length : Int) ((i + 1 : Nat) : Int) f0 f1 f2 l) (fun k => ?_) (ih (i + 1) (by omega))
  rw [impl_cloneMeta.l0, if_pos (by omega), if_pos (by omega), if_pos (by omega), rd_T122_nat _ _ hlt]
  unfold slices_Clone_int_int.f
  rw [if_pos (by omega), Option.bind_some, if_pos (by rw [List.length_take]; omega), wrap_in (by omega) (by omega), List.take_succ_eq_append_getElem hlt]
  rfl
theorem cloneM_ev (x : S53) (h : OKn x.f3) : Ev (fun k => impl_cloneMeta.f k x.f0 x.f1 x.f2 x.f3) (x.f0, x.f1, x.f2, x.f3) := cloneM_go x.f3 x.f0 x.f1 x.f2 h.1 h.2 x.f3.length 0 (by omega)
theorem cloneR_ev (l : List S118) (hs : ∀ s ∈ l, OKn s.f1.f3) : EvP (fun k => ∀ r ∈ l, impl_cloneMeta.f k r.f1.f0 r.f1.f1 r.f1.f2 r.f1.f3 = some (r.f1.f0, r.f1.f1, r.f1.f2, r.f1.f3)) := by
 induction l with
 | nil => exact ⟨0, fun k _ r h => by cases h⟩
 | cons x l ih =>
  refine ((EvP.of (cloneM_ev x.f1 (hs x (List.mem_cons_self)))).and (ih (fun s h => hs s (List.mem_cons_of_mem _ h)))).imp ?_
  rintro k ⟨h1, h2⟩ r hr
  rcases List.mem_cons.1 hr with rfl | hr
  ·exact h1
  ·exact h2 r hr
theorem sync_go (p : List ByteArray) (q : List S135) (hp : p.length ≤ 2000000) (hq : q.length ≤ 2000000) : ∀ (n i : Nat) (e : List ByteArray), i + n = q.length → e.length = p.length → ∃ e', Ev (fun k => spec_SyncDisk.l0 k (i : Int) p q e) (e', []) ∧ Ev (fun k => impl_SyncDisk.l0 k q (q.length : Int) (i : Int) p q e q) (e', []) ∧ e'.length = p.length := by
 intro n
 induction n with
 | zero =>
  intro i e hi he
  refine ⟨e, Ev.step (f := fun _ => some (e, [])) (fun k => ?_) (Ev.now _), Ev.step (f := fun _ => some (e, [])) (fun k => ?_) (Ev.now _), he⟩
  ·rw [spec_SyncDisk.l0, if_neg (by omega)]
  ·rw [impl_SyncDisk.l0, if_neg (by omega)]
 | succ n ih =>
  intro i e hi he
  have hlt : i < q.length := by omega
  have w1 : wrap64 ((p.length : Int) - 1) = (p.length : Int) - 1 := wrap_in (by omega) (by omega)
  have w2 : wrap64 ((i : Int) + 1) = ((i + 1 : Nat) : Int) := by rw [wrap_in (by omega) (by omega)]; omega
  by_cases hx : 0 ≤ q[i].f0 ∧ q[i].f0 ≤ (p.length : Int) - 1
  ·obtain ⟨e', e1, e2, e3⟩ := ih (i + 1) (e.set q[i].f0.toNat q[i].f1) (by omega) (by rw [List.length_set]; exact he)
   refine ⟨e', Ev.step (f := fun k => spec_SyncDisk.l0 k ((i + 1 : Nat) : Int) p q (e.set q[i].f0.toNat q[i].f1)) (fun k => ?_) e1, Ev.step (f := fun k => impl_SyncDisk.l0 k q (q.length : Int) ((i + 1 : Nat) : Int) p q (e.set q[i].f0.toNat q[i].f1) q) (fun k => ?_) e2, e3⟩
   ·rw [spec_SyncDisk.l0, if_pos (by omega), if_pos (by omega), rd135 _ _ hlt, w1, w2]
    unfold spec_l01In.f
    rw [if_pos (show q[i].f0 ≥ 0 from hx.1), Option.bind_some, if_pos (by simpa using hx.2), if_pos hx.1, if_pos (by omega)]
   ·rw [impl_SyncDisk.l0, if_pos (by omega), if_pos (by omega), if_pos (by omega), rd135 _ _ hlt, w2]
    unfold impl_isPage.f impl_in.f
    rw [w1, if_pos (show q[i].f0 ≥ 0 from hx.1), Option.bind_some, Option.bind_some, if_pos (by simpa using hx.2), if_pos hx.1, if_pos (by omega)]
  ·obtain ⟨e', e1, e2, e3⟩ := ih (i + 1) e (by omega) he
   refine ⟨e', Ev.step (f := fun k => spec_SyncDisk.l0 k ((i + 1 : Nat) : Int) p q e) (fun k => ?_) e1, Ev.step (f := fun k => impl_SyncDisk.l0 k q (q.length : Int) ((i + 1 : Nat) : Int) p q e q) (fun k => ?_) e2, e3⟩
   ·rw [spec_SyncDisk.l0, if_pos (by omega), if_pos (by omega), rd135 _ _ hlt, w1, w2]
    unfold spec_l01In.f
    by_cases h0 : q[i].f0 ≥ 0
    ·rw [if_pos h0, Option.bind_some, if_neg (by simp; omega)]
    ·rw [if_neg h0, Option.bind_some, if_neg (by decide)]
   ·rw [impl_SyncDisk.l0, if_pos (by omega), if_pos (by omega), if_pos (by omega), rd135 _ _ hlt, w2]
    unfold impl_isPage.f impl_in.f
    rw [w1]
    by_cases h0 : q[i].f0 ≥ 0
    ·rw [if_pos h0, Option.bind_some, Option.bind_some, if_neg (by simp; omega)]
    ·rw [if_neg h0, Option.bind_some, Option.bind_some, if_neg (by decide)]
theorem cloneD_id (p : List ByteArray) (q : List S135) (hp : p.length ≤ 2000000) (hq : q.length ≤ 2000000) : impl_cloneDisk.f p q = some (p, q) := by
 unfold impl_cloneDisk.f slices_Clone_string_string.f impl_Put.f
 rw [if_pos (by omega), if_pos (by omega)]
 rfl
theorem sync_both (p : List ByteArray) (q : List S135) (hp : p.length ≤ 2000000) (hq : q.length ≤ 2000000) : ∃ e, Ev (fun k => spec_SyncDisk.f k p q) (e, []) ∧ Ev (fun k => impl_SyncDisk.f k p q) (e, []) ∧ e.length = p.length := by
 obtain ⟨e, e1, e2, e3⟩ := sync_go p q hp hq q.length 0 p (by omega) rfl
 refine ⟨e, Ev.congr (fun k => ?_) e1, Ev.congr (fun k => ?_) e2, e3⟩
 ·unfold spec_SyncDisk.f
  simp only [Option.bind_some, List.nil_append, List.length_nil]
  rw [if_pos (by omega)]
  rfl
 ·unfold impl_SyncDisk.f
  rw [cloneD_id p q hp hq]
  rfl
theorem cloneI_ev (d : ((List ByteArray × List S135) × S53 × List S118 × (S53 × (List ByteArray × List S135 × Int × List Int × List Int × List Int) × Int) × Bool × Bool)) (h : OKs d) : EvP (fun k => CloneImpl k d) := by
 obtain ⟨⟨a0, a1⟩, x, rs, ⟨y, ⟨l0, l1, l2, l3, l4, l5⟩, n⟩, bw, bf⟩ := d
 obtain ⟨⟨b0, b1⟩, h2, h3, h4, ⟨b5, b6⟩, h6, h7, h8⟩ := h
 refine ((EvP.now (cloneD_id a0 a1 (Nat.le_trans b0 (by decide)) (Nat.le_trans b1 (by decide)))).and ((EvP.of (cloneM_ev x h2)).and ((cloneR_ev rs h3.2).and ((EvP.of (cloneM_ev y h4)).and (EvP.now ⟨⟨⟨Nat.le_trans b5 (by decide), Nat.le_trans b6 (by decide)⟩, Nat.le_trans h6 (by decide), Nat.le_trans h7 (by decide), Nat.le_trans h8 (by decide)⟩, Nat.le_trans h3.1 (by decide)⟩))))).imp (fun k h => h)
theorem smallM {x : S53} (h : OKn x.f3) : SmallM x := ⟨Nat.le_trans h.1 (by decide), fun f hf => Nat.le_trans (h.2 f hf) (by decide)⟩
theorem cloneS_ev (d : ((List ByteArray × List S135) × S53 × List S118 × (S53 × (List ByteArray × List S135 × Int × List Int × List Int × List Int) × Int) × Bool × Bool)) (h : OKs d) (k : Nat) : CloneSpec k d := by
 obtain ⟨⟨a0, a1⟩, x, rs, ⟨y, ⟨l0, l1, l2, l3, l4, l5⟩, n⟩, bw, bf⟩ := d
 obtain ⟨⟨b0, b1⟩, h2, h3, h4, ⟨b5, b6⟩, h6, h7, h8⟩ := h
 exact ⟨⟨Nat.le_trans b0 (by decide), Nat.le_trans b1 (by decide)⟩, smallM h2, fun r hr => smallM (h3.2 r hr), smallM h4, ⟨⟨Nat.le_trans b5 (by decide), Nat.le_trans b6 (by decide)⟩, Nat.le_trans h6 (by decide), Nat.le_trans h7 (by decide), Nat.le_trans h8 (by decide)⟩, Nat.le_trans h3.1 (by decide)⟩
theorem stop_ev (d : ((List ByteArray × List S135) × S53 × List S118 × (S53 × (List ByteArray × List S135 × Int × List Int × List Int × List Int) × Int) × Bool × Bool)) (h : OKs d) : ∃ z c, EvP (fun k => SpecStop k d z c) ∧ EvP (fun k => ImplStop k d z c) ∧ OKs z := by
 have hI := cloneI_ev d h
 have hS := cloneS_ev d h
 by_cases hw : d.2.2.2.2.1 = true
 ·obtain ⟨e, e1, e2, e3⟩ := sync_both d.2.2.2.1.2.1.1 d.2.2.2.1.2.1.2.1 (Nat.le_trans h.2.2.2.2.1.1 (by decide)) (Nat.le_trans h.2.2.2.2.1.2 (by decide))
  refine ⟨_, 0, (EvP.of e1).imp (fun k hk => ⟨hS k, .inr ⟨hw, rfl, e, [], hk, rfl⟩⟩), ((EvP.of e2).and hI).imp (fun k hk => ⟨hk.2, .inr ⟨hw, rfl, e, [], hk.1, rfl⟩⟩), ?_⟩
  refine ⟨⟨by rw [show e.length = _ from e3]; exact h.2.2.2.2.1.1, Nat.zero_le _⟩, h.2.1, h.2.2.1, ⟨Nat.zero_le _, fun s hs => by cases hs⟩, ⟨Nat.zero_le _, Nat.zero_le _⟩, Nat.zero_le _, Nat.zero_le _, Nat.zero_le _⟩
 ·have hw2 : d.2.2.2.2.1 = false := by cases h : d.2.2.2.2.1 <;> simp_all
  exact ⟨d, 2, EvP.now (⟨hS 0, .inl ⟨hw2, rfl, rfl⟩⟩ : SpecStop 0 d d 2) |>.imp (fun k _ => ⟨hS k, .inl ⟨hw2, rfl, rfl⟩⟩), hI.imp (fun k hk => ⟨hk, .inl ⟨hw2, rfl, rfl⟩⟩), h⟩
theorem stop_law (a : ((List ByteArray × List S140) × S69 × List S154 × (S69 × (List ByteArray × List S140 × Int × List Int × List Int × List Int) × Int) × Bool × Bool)) (ha : INs a) {cs : List Value} (w : World) (h : kStoreL.K w a cs) :
  Calls Try.prog 7 #[.agg cs.toArray] w fun e w' => e = .returned (.bool true) ∧ Below w.heap.size w w' := by
 obtain ⟨r, ⟨K0, er⟩, hr⟩ := sz_store a ha
 rcases hr with hr | ⟨hr, ho⟩
 ·exact stop_small0 K0 a r w h (er K0 (Nat.le_refl _)) hr
 ·obtain ⟨hto, hd⟩ := to_store a ho
  obtain ⟨z, c, hsp, him, hz⟩ := stop_ev (convS a) hd
  obtain ⟨d', mk, hmk, mk0, _⟩ := mark_store (convS a) hd
  obtain ⟨z', mg, hmg, mg0, hhd⟩ := mark_store z hz
  obtain ⟨K, hK⟩ := (EvP.of ⟨K0, er⟩).and (hto.and (hsp.and (him.and ((eq_store z hz).and ((eq_store (convS a) hd).and (hmk.and (hmg.and hhd)))))))
  obtain ⟨f1, f2, f3, f4, f5, f6, f7, f8, f9⟩ := hK K (Nat.le_refl _)
  exact stop_great K a r (convS a) d' z z' c mk mg w h f1 f2 f3 f4 f5 f6 f7 f8 f9 hr mk0 mg0
end Go.Proofs.Ytonhdiemjgdcnaa.PFnExactGivePage
namespace Go.Proofs.Ytonhdiemjgdcnaa.Head
set_option maxRecDepth 100000
def w1 : List Char := [104, 97, 114, 110, 101, 115, 115].map Char.ofNat
def w2 : List Char := [102, 102, 99, 99, 97, 102, 100, 57, 54, 99, 57, 54, 100, 98, 54, 53, 56, 98, 100, 57, 100, 102, 97, 56, 49, 98, 54, 52, 48, 99, 56, 57, 52, 97, 101, 102, 52, 49, 97, 98, 49, 50, 52, 102, 49, 51, 48, 52, 52, 99, 53, 53, 98, 101, 54, 56, 56, 49, 55, 53, 55, 54, 55, 56].map Char.ofNat
def w3 : List Char := [99, 117, 116].map Char.ofNat
def w4 : List Char := [97, 116, 32, 108, 111, 111, 112, 46, 101, 120, 97, 109, 112, 108, 101, 47, 103, 48, 48, 50, 52, 48, 47, 108, 97, 119, 115, 46, 70, 110, 69, 120, 97, 99, 116, 71, 105, 118, 101, 80, 97, 103, 101, 32, 108, 111, 111, 112, 46, 101, 120, 97, 109, 112, 108, 101, 47, 103, 48, 48, 50, 52, 48, 47, 108, 97, 119, 115, 46, 70, 110, 69, 120, 97, 99, 116, 80, 117, 116, 78, 111, 100, 101, 32, 108, 111, 111, 112, 46, 101, 120, 97, 109, 112, 108, 101, 47, 103, 48, 48, 50, 52, 48, 47, 108, 97, 119, 115, 46, 70, 110, 69, 120, 97, 99, 116, 79, 112, 101, 110, 32, 108, 111, 111, 112, 46, 101, 120, 97, 109, 112, 108, 101, 47, 103, 48, 48, 50, 52, 48, 47, 108, 97, 119, 115, 46, 70, 110, 69, 120, 97, 99, 116, 69, 110, 100, 82, 101, 97, 100, 32, 108, 111, 111, 112, 46, 101, 120, 97, 109, 112, 108, 101, 47, 103, 48, 48, 50, 52, 48, 47, 108, 97, 119, 115, 46, 70, 110, 69, 120, 97, 99, 116, 83, 116, 111, 112, 87, 114, 105, 116, 101, 32, 108, 111, 111, 112, 46, 101, 120, 97, 109, 112, 108, 101, 47, 103, 48, 48, 50, 52, 48, 47, 108, 97, 119, 115, 46, 70, 110, 69, 120, 97, 99, 116, 78, 101, 120, 116, 77, 101, 116, 97].map Char.ofNat
def blank : Char := Char.ofNat 32
theorem cut_at (a r : List Char) (h : a.all (· != blank) = true) : wordsSigns (a ++ blank :: r) = a :: wordsSigns r := by
 induction a with
 | nil => rfl
 | cons c a ih =>
  simp only [List.all_cons, Bool.and_eq_true, bne_iff_ne] at h
  have e := ih h.2
  have hc : ∀ s, wordsSigns (c :: s) = match wordsSigns s with | w :: ws => (c :: w) :: ws | [] => [[c]] := by
   intro s
   conv => lhs; unfold wordsSigns
   split
   ·rename_i h0; cases h0
   ·rename_i h0
    injection h0 with h1 h2
    exact absurd h1 h.1
   ·rename_i h0 _ h1
    injection h1 with h2 h3
    subst h2
    subst h3
    rfl
  show wordsSigns (c :: (a ++ blank :: r)) = _
  rw [hc, e]
theorem io : Try.prog.initOrder = String.ofList (w1 ++ blank :: (w2 ++ blank :: (w3 ++ blank :: w4))) := by kernel_rfl
theorem words : wordsSigns Try.prog.initOrder.toList = w1 :: w2 :: w3 :: wordsSigns w4 := by
 rw [io, String.toList_ofList, cut_at _ _ (by kernel_rfl), cut_at _ _ (by kernel_rfl), cut_at _ _ (by kernel_rfl)]
theorem m0 : ((w1 == "harness".toList || w1 == "ownmain".toList) && isSumSigns w2) = true := by kernel_rfl
theorem m1 : (w3 == "gc".toList) = false := by kernel_rfl
theorem m2 : (w3 == "spec".toList) = false := by kernel_rfl
theorem m3 : (w3 == "cut".toList) = true := by kernel_rfl
theorem m4 : (w3 == "carried".toList) = false := by kernel_rfl
theorem m5 (R : List (List Char)) : ((w3 :: R).head? == some "cut".toList) = true := by kernel_rfl
theorem m5c (R : List (List Char)) : ((w3 :: R).head? == some "carried".toList) = false := by kernel_rfl
theorem m6 (R : List (List Char)) : stripLifts liftWords (w3 :: R) = ([], w3 :: R) := by kernel_rfl
theorem m7 : Try.prog.laysLater = false := by kernel_rfl
theorem m8 : Try.prog.bearsReflect = false := by kernel_rfl
theorem m9 : Try.prog.doorFits [] = true := by kernel_rfl
theorem behind (R : List (List Char)) : behindMainWord (w1 :: w2 :: R) = R := by
 show (if ((w1 == "harness".toList || w1 == "ownmain".toList) && isSumSigns w2) = true then R else w1 :: w2 :: R) = R
 rw [if_pos m0]
theorem beh : ∃ R, behindMainWord (wordsSigns Try.prog.initOrder.toList) = w3 :: R := ⟨wordsSigns w4, by rw [words, behind]⟩
theorem lifts_of (P : Program) (R : List (List Char)) (h : behindMainWord (wordsSigns P.initOrder.toList) = w3 :: R) : (false == P.liftsFinal) = true := by
 unfold Program.liftsFinal Program.headLifts
 rw [h]
 simp only [m5, m5c, m6]
 rfl
theorem may_of (P : Program) (R : List (List Char)) (h : behindMainWord (wordsSigns P.initOrder.toList) = w3 :: R) (h7 : P.laysLater = false) (h8 : P.bearsReflect = false) (h9 : P.doorFits [] = true) : P.mayEnter = true := by
 unfold Program.mayEnter
 rw [h]
 simp only [m1, m2, m4, m5, m6, h7, h8, h9]
 rfl
theorem made_of (P : Program) (R : List (List Char)) (h : behindMainWord (wordsSigns P.initOrder.toList) = w3 :: R) : (P.make == some Make.cut) = true := by
 unfold Program.make Program.headLifts
 rw [h]
 simp only [m1, m2, m3]
 rfl
theorem lifts : (false == Try.prog.liftsFinal) = true := by
 obtain ⟨R, h⟩ := beh
 exact lifts_of _ R h
theorem may : Try.prog.mayEnter = true := by
 obtain ⟨R, h⟩ := beh
 exact may_of _ R h m7 m8 m9
theorem made : (Try.prog.make == some Make.cut) = true := by
 obtain ⟨R, h⟩ := beh
 exact made_of _ R h
theorem laid : laidOutB Try.prog = true := by kernel_rfl
theorem maps : mapsRowed Try.prog = true := by kernel_rfl
theorem heard : Try.prog.stopsHeard = true := by kernel_rfl
theorem plain : (true == Try.prog.plainKeys) = true := by kernel_rfl
end Go.Proofs.Ytonhdiemjgdcnaa.Head
namespace Go.Proofs.Ytonhdiemjgdcnaa.Opened
open Go.RowKit Go.Deep Go.WideShapes Go.Proofs.YtonhdiemjgdcnaaW.PrintWords
def Opens {α : Type} (P : Program) (t : TypeId) (d : Kd α) (ok : α → Prop) : Prop :=
 ∀ (H : Type) (enc : TypeId × Value → H) (w : World) (base : Nat) (spare : Nat → Bool) (held : Bool) (fuel : Nat) (cs : List Value) (x : DataW H × List MemPlace),
  DataW.trod enc P w base spare held fuel t cs = some x → ∃ y : α, d.K w y cs ∧ ok y
variable {P : Program}
theorem opens_int {t : TypeId} {k : IntKind} (hu : P.underlying t = some (.int k)) : Opens P t (Kd.int k) (fun _ => True) := by
 intro H enc w base spare held fuel cs x h
 obtain ⟨n, rfl, _, _⟩ := DataW.trod_int hu h
 exact ⟨n, rfl, trivial⟩
theorem opens_string {t : TypeId} (hu : P.underlying t = some .string) : Opens P t Kd.string (fun s => s.size ≤ 9223372036854775807) := by
 intro H enc w base spare held fuel cs x h
 obtain ⟨n, rfl, _, hs⟩ := DataW.trod_string hu h
 exact ⟨n, rfl, by unfold maxLen at hs; omega⟩
theorem list_of {α : Type} (n : Nat) (Q : Nat → α → Prop) (h : ∀ i, i < n → ∃ y, Q i y) : ∃ ys : List α, ys.length = n ∧ ∀ j p, ys[j]? = some p → Q j p := by
 induction n with
 | zero => exact ⟨[], rfl, fun j p h => by simp at h⟩
 | succ n ih =>
  obtain ⟨ys, hl, hy⟩ := ih (fun i hi => h i (by omega))
  obtain ⟨y, hq⟩ := h n (by omega)
  refine ⟨ys ++ [y], by simp [hl], fun j p hj => ?_⟩
  rcases Nat.lt_or_ge j n with hlt | hge
  ·rw [List.getElem?_append_left (by omega)] at hj
   exact hy j p hj
  ·have hj' : j = n := by
    have := (List.getElem?_eq_some_iff.1 hj).1
    rw [List.length_append, List.length_singleton] at this
    omega
   subst hj'
   have : y = p := by rw [List.getElem?_append_right (by omega), hl, Nat.sub_self] at hj; simpa using hj
   subst this
   exact hq
theorem opens_slice {t e : TypeId} {α : Type} {d : Kd α} {ok : α → Prop} (hu : P.underlying t = some (.slice e)) (he : Opens P e d ok) (hc : P.cellsOf e = d.sz) (n : Nat) : Opens P t (Kd.slice n d) (fun ys => ∀ y ∈ ys, ok y) := by
 intro H enc w base spare held fuel cs x h
 rcases open_slice hu h with ⟨rfl, _⟩ | ⟨a, len, cap, m, n', D, Pl, rfl, _, hl, hm, hmm, _, hel⟩
 ·exact ⟨[], ⟨none, 0, rfl, Nat.le_refl _, rfl, by simp, fun h => by simp at h⟩, fun y hy => by cases hy⟩
 ·have hlm : len ≤ m := by
   rw [hmm]
   split <;> omega
  obtain ⟨ys, hy, hq⟩ := list_of len (fun i y => ok y ∧ ∃ cs', w.cells? base (a.add (i * P.cellsOf e)) (P.cellsOf e) = some cs' ∧ d.K w y cs') (fun i hi => by
   obtain ⟨cs', h1, h2⟩ := hel i (by omega)
   obtain ⟨y, hy, hok⟩ := he _ enc w base spare held n' cs' _ h2
   exact ⟨y, hok, cs', h1, hy⟩)
  subst hy
  refine ⟨ys, ⟨some a, cap, rfl, hl, rfl, by unfold maxLen at hm; omega, fun _ => ⟨a, rfl, fun j p hj => ?_⟩⟩, fun y hy => ?_⟩
  ·obtain ⟨_, cs', h1, h2⟩ := hq j p hj
   obtain ⟨_, h3, h4⟩ := World.cells?_some h1
   refine ⟨cs', h3.trans hc, h2, fun i u hi => ?_⟩
   have hi' : i < P.cellsOf e := by
    have := (List.getElem?_eq_some_iff.1 hi).1
    omega
   have := h4 i hi'
   rw [Addr.add_add, hc] at this
   rw [this]
   exact hi
  ·obtain ⟨j, hj, rfl⟩ := List.getElem_of_mem hy
   exact (hq j _ (List.getElem?_eq_getElem hj)).1
def Parts {α : Type} (P : Program) (fs : List Field) (o : Nat) (d : Kd α) (ok : α → Prop) : Prop :=
 ∀ (H : Type) (enc : TypeId × Value → H) (w : World) (base : Nat) (spare : Nat → Bool) (held : Bool) (fuel : Nat) (cs : List Value), cs.length = o + d.sz →
  (∀ f ∈ fs, ∃ x : DataW H × List MemPlace, DataW.trod enc P w base spare held fuel f.type ((cs.drop f.offset).take (P.cellsOf f.type)) = some x) → ∃ y : α, d.K w y (cs.drop o) ∧ ok y
theorem parts_last {α : Type} {d : Kd α} {ok : α → Prop} {f : Field} {o : Nat} (hf : Opens P f.type d ok) (ho : f.offset = o) (hc : P.cellsOf f.type = d.sz) : Parts P [f] o d ok := by
 intro H enc w base spare held fuel cs hl h
 obtain ⟨x, hx⟩ := h f (by simp)
 rw [ho, hc, List.take_of_length_le (by rw [List.length_drop]; omega)] at hx
 exact hf _ enc w base spare held fuel _ x hx
theorem parts_cons {α β : Type} {d : Kd α} {ds : Kd β} {ok : α → Prop} {oks : β → Prop} {f : Field} {fs : List Field} {o o' : Nat} (hf : Opens P f.type d ok) (ho : f.offset = o) (hc : P.cellsOf f.type = d.sz) (hs : Parts P fs o' ds oks) (ho' : o' = o + d.sz) : Parts P (f :: fs) o (Kd.pair d ds) (fun p => ok p.1 ∧ oks p.2) := by
 intro H enc w base spare held fuel cs hl h
 subst ho'
 have hl' : cs.length = o + (d.sz + ds.sz) := hl
 obtain ⟨x, hx⟩ := h f (by simp)
 rw [ho, hc] at hx
 obtain ⟨y, hy, oy⟩ := hf _ enc w base spare held fuel _ x hx
 obtain ⟨z, hz, oz⟩ := hs _ enc w base spare held fuel cs (by omega) (fun g hg => h g (by simp [hg]))
 refine ⟨(y, z), ⟨(cs.drop o).take d.sz, cs.drop (o + d.sz), ?_, hy, hz⟩, oy, oz⟩
 rw [← List.drop_drop]
 exact (List.take_append_drop _ _).symm
theorem opens_struct {t : TypeId} {fs : Array Field} {α β : Type} {d : Kd α} {ok : α → Prop} (hu : P.underlying t = some (.struct fs)) (hp : Parts P fs.toList 0 d ok) (hc : P.cellsOf t = d.sz) (f : β → α) (g : α → β) (hg : ∀ y, f (g y) = y) : Opens P t (Kd.iso d f) (fun y => ok (f y)) := by
 intro H enc w base spare held fuel cs x h
 obtain ⟨xs, n, _, _, hl, hlen, hi⟩ := DataW.trod_struct hu h
 obtain ⟨y, hy, oy⟩ := hp _ enc w base spare held n cs (by omega) (fun fl hfl => by
  obtain ⟨i, hlt, he⟩ := List.getElem_of_mem hfl
  have hlt' : i < fs.size := by simpa using hlt
  have := hi i fl (by rw [Array.getElem?_eq_getElem hlt']; simpa using he)
  rw [List.getElem?_eq_getElem (by omega)] at this
  exact ⟨_, this⟩)
 refine ⟨g y, ?_, ?_⟩
 ·show d.K w (f (g y)) cs
  rw [hg]
  simpa using hy
 ·show ok (f (g y))
  rw [hg]
  exact oy
theorem arg_struct {t : TypeId} {fs : Array Field} {α : Type} {d : Kd α} {ok : α → Prop} (hu : P.underlying t = some (.struct fs)) (ho : Opens P t d ok) {H : Type} {enc : TypeId × Value → H} {w : World} {base b0 : Nat} {spare : Nat → Bool} {held : Bool} {r : Reach} {v : Value} {x : DataW H} {p : List MemPlace}
  (hv : Value.okWide P w r b0 t v) (h : DataW.Trod enc P w base spare held t v x p) : ∃ (y : α) (cs : List Value), v = .agg cs.toArray ∧ d.K w y cs ∧ ok y := by
 obtain ⟨cs, rfl, _⟩ := okWide_struct hu hv
 obtain ⟨fuel, hf⟩ := h
 obtain ⟨y, hy, oy⟩ := ho _ enc w base spare held fuel _ _ hf
 exact ⟨y, cs.toList, by simp, by simpa [Value.cells] using hy, oy⟩
end Go.Proofs.Ytonhdiemjgdcnaa.Opened
namespace Go.Proofs.Ytonhdiemjgdcnaa.PFnExactGivePage
open Go.ChangeShapes Go.WideShapes Go.ChangeAt Go.RowKit
open Go.ChangeMaps (open_string shut_string)
open Go.Proofs.Ytonhdiemjgdcnaa.Opened Go.Proofs.YtonhdiemjgdcnaaW.PrintWords
def dDisk : Kd (List ByteArray × List S140) := Kd.pair (Kd.slice 9 Kd.string) (Kd.slice 140 k140)
def okDisk (p : List ByteArray × List S140) : Prop := (∀ s ∈ p.1, s.size ≤ 9223372036854775807) ∧ ∀ s ∈ p.2, s.f1.size ≤ 9223372036854775807
theorem opens140 : Opens Try.prog 140 k140 (fun s => s.f1.size ≤ 9223372036854775807) := by
 have h := opens_struct (P := Try.prog) Try.underlying140 (parts_cons (opens_int Try.underlying3) rfl (by kernel_rfl) (parts_last (opens_string Try.underlying9) rfl (by kernel_rfl)) rfl) (by kernel_rfl) (fun x : S140 => (x.f0, x.f1)) (fun p => ⟨p.1, p.2⟩) (fun _ => rfl)
 intro H enc w base spare held fuel cs x hx
 obtain ⟨y, h1, h2⟩ := h _ enc w base spare held fuel cs x hx
 exact ⟨y, h1, h2.2⟩
theorem opens25 : Opens Try.prog 25 (Kd.iso dDisk id) okDisk :=
 opens_struct (P := Try.prog) Try.underlying25 (parts_cons (opens_slice Try.underlying22 (opens_string Try.underlying9) (by kernel_rfl) 9) rfl (by kernel_rfl) (parts_last (opens_slice Try.underlying23 opens140 (by kernel_rfl) 140) rfl (by kernel_rfl)) rfl) (by kernel_rfl) id id (fun _ => rfl)
theorem opens_bool {P : Program} {t : TypeId} (hu : P.underlying t = some .bool) : Opens P t Kd.bool (fun _ => True) := by
 intro H enc w base spare held fuel cs x h
 obtain ⟨n, rfl, _⟩ := DataW.trod_bool hu h
 exact ⟨n, rfl, trivial⟩
theorem opens183 : Opens Try.prog 183 k183 (fun s => True ∧ ∀ y ∈ s.f1, True) :=
 opens_struct (P := Try.prog) Try.underlying183 (parts_cons (opens_int Try.underlying3) rfl (by kernel_rfl) (parts_last (opens_slice Try.underlying26 (opens_int Try.underlying3) (by kernel_rfl) 3) rfl (by kernel_rfl)) rfl) (by kernel_rfl) (fun x : S183 => (x.f0, x.f1)) (fun p => ⟨p.1, p.2⟩) (fun _ => rfl)
theorem opens69 : Opens Try.prog 69 k69 (fun x => True ∧ True ∧ True ∧ ∀ s ∈ x.f3, True ∧ ∀ y ∈ s.f1, True) :=
 opens_struct (P := Try.prog) Try.underlying69 (parts_cons (opens_int Try.underlying3) rfl (by kernel_rfl) (parts_cons (opens_int Try.underlying3) rfl (by kernel_rfl) (parts_cons (opens_int Try.underlying3) rfl (by kernel_rfl) (parts_last (opens_slice Try.underlying67 opens183 (by kernel_rfl) 183) rfl (by kernel_rfl)) rfl) rfl) rfl) (by kernel_rfl) (fun x : S69 => (x.f0, x.f1, x.f2, x.f3)) (fun p => ⟨p.1, p.2.1, p.2.2.1, p.2.2.2⟩) (fun _ => rfl)
theorem opens154 : ∃ ok, Opens Try.prog 154 k154 ok := ⟨_,
 opens_struct (P := Try.prog) Try.underlying154 (parts_cons (opens_int Try.underlying3) rfl (by kernel_rfl) (parts_last opens69 rfl (by kernel_rfl)) rfl) (by kernel_rfl) (fun x : S154 => (x.f0, x.f1)) (fun p => ⟨p.1, p.2⟩) (fun _ => rfl)⟩
def dWork : Kd ((List ByteArray × List S140) × Int × List Int × List Int × List Int) := Kd.pair (Kd.iso dDisk id) (Kd.pair (Kd.int .i64) (Kd.pair (Kd.slice 3 (Kd.int .i64)) (Kd.pair (Kd.slice 3 (Kd.int .i64)) (Kd.slice 3 (Kd.int .i64)))))
theorem opensI : Opens Try.prog 26 (Kd.slice 3 (Kd.int .i64)) (fun ys => ∀ y ∈ ys, True) := opens_slice Try.underlying26 (opens_int Try.underlying3) (by kernel_rfl) 3
def unW (p : (List ByteArray × List S140) × Int × List Int × List Int × List Int) : (List ByteArray × List S140 × Int × List Int × List Int × List Int) := (p.1.1, p.1.2, p.2)
def reW (p : (List ByteArray × List S140 × Int × List Int × List Int × List Int)) : (List ByteArray × List S140) × Int × List Int × List Int × List Int := ((p.1, p.2.1), p.2.2)
theorem opens28 : ∃ ok, Opens Try.prog 28 (Kd.iso dWork reW) ok ∧ ∀ x, ok x → okDisk (x.1, x.2.1) := ⟨_,
 opens_struct (P := Try.prog) Try.underlying28 (parts_cons opens25 rfl (by kernel_rfl) (parts_cons (opens_int Try.underlying3) rfl (by kernel_rfl) (parts_cons opensI rfl (by kernel_rfl) (parts_cons opensI rfl (by kernel_rfl) (parts_last opensI rfl (by kernel_rfl)) rfl) rfl) rfl) rfl) (by kernel_rfl) reW unW (fun _ => rfl), fun x h => h.1⟩
def dTxn : Kd (S69 × (List ByteArray × List S140 × Int × List Int × List Int × List Int) × Int) := Kd.pair k69 (Kd.pair (Kd.iso dWork reW) (Kd.int .i64))
theorem opens72 : ∃ ok, Opens Try.prog 72 (Kd.iso dTxn id) ok ∧ ∀ x, ok x → okDisk (x.2.1.1, x.2.1.2.1) := by
 obtain ⟨ok, h, ho⟩ := opens28
 exact ⟨_, opens_struct (P := Try.prog) Try.underlying72 (parts_cons opens69 rfl (by kernel_rfl) (parts_cons h rfl (by kernel_rfl) (parts_last (opens_int Try.underlying3) rfl (by kernel_rfl)) rfl) rfl) (by kernel_rfl) id id (fun _ => rfl), fun x h => ho _ h.2.1⟩
def dStore : Kd ((List ByteArray × List S140) × S69 × List S154 × (S69 × (List ByteArray × List S140 × Int × List Int × List Int × List Int) × Int) × Bool × Bool) := Kd.pair (Kd.iso dDisk id) (Kd.pair k69 (Kd.pair (Kd.slice 154 k154) (Kd.pair (Kd.iso dTxn id) (Kd.pair Kd.bool Kd.bool))))
theorem opens74 : ∃ ok, Opens Try.prog 74 (Kd.iso dStore id) ok ∧ ∀ x, ok x → okDisk x.1 ∧ okDisk (x.2.2.2.1.2.1.1, x.2.2.2.1.2.1.2.1) := by
 obtain ⟨ok, h, ho⟩ := opens72
 obtain ⟨ok2, h2⟩ := opens154
 exact ⟨_, opens_struct (P := Try.prog) Try.underlying74 (parts_cons opens25 rfl (by kernel_rfl) (parts_cons opens69 rfl (by kernel_rfl) (parts_cons (opens_slice Try.underlying70 h2 (by kernel_rfl) 154) rfl (by kernel_rfl) (parts_cons h rfl (by kernel_rfl) (parts_cons (opens_bool Try.underlying4) rfl (by kernel_rfl) (parts_last (opens_bool Try.underlying4) rfl (by kernel_rfl)) rfl) rfl) rfl) rfl) rfl) (by kernel_rfl) id id (fun _ => rfl), fun x h => ⟨h.1, ho _ h.2.2.2.1⟩⟩
theorem C183_len {w : World} {A : Option Addr} {xs : List S183} (h : Kd.C k183 w A xs.length xs) : INm xs := by
 refine ⟨fun s hs => ?_, h.2.1⟩
 obtain ⟨j, hj, rfl⟩ := List.getElem_of_mem hs
 obtain ⟨_, _, _, _, _, _, _, hC⟩ := at_T183 h (j : Int) (by omega) (by omega)
 rw [rd_T183_nat _ _ hj] at hC
 exact hC.2.1
theorem K69_len {w : World} {x : S69} {cs : List Value} (h : k69.K w x cs) : INm x.f3 := by
 obtain ⟨A, c, rfl, m, r⟩ := k69_open h
 exact C183_len r
theorem C154_len {w : World} {A : Option Addr} {xs : List S154} (h : Kd.C k154 w A xs.length xs) : ∀ s ∈ xs, INm s.f1.f3 := by
 intro s hs
 obtain ⟨j, hj, rfl⟩ := List.getElem_of_mem hs
 obtain ⟨_, _, _, _, _, _, _, _, _, _, hC⟩ := at_T154 h (j : Int) (by omega) (by omega)
 rw [rd_T154_nat _ _ hj] at hC
 exact C183_len hC
theorem KD_len {w : World} {x : List ByteArray × List S140} {cs : List Value} (h : kDiskL.K w x cs) (ho : okDisk x) : INd x.1 x.2 := by
 obtain ⟨p, q⟩ := x
 obtain ⟨A0, c0, A1, c1, rfl, m0, r0, m1, r1⟩ := kDiskL_open h
 exact ⟨ho.1, r0.2.1, ho.2, r1.2.1⟩
theorem KW_len {w : World} {x : (List ByteArray × List S140 × Int × List Int × List Int × List Int)} {cs : List Value} (h : kWorkL.K w x cs) (ho : okDisk (x.1, x.2.1)) : INd x.1 x.2.1 ∧ INi x.2.2.2.1 ∧ INi x.2.2.2.2.1 ∧ INi x.2.2.2.2.2 := by
 obtain ⟨l0, l1, l2, l3, l4, l5⟩ := x
 obtain ⟨A0, c0, A1, c1, A3, c3, A4, c4, A5, c5, rfl, m0, r0, m1, r1, m3, r3, m4, r4, m5, r5⟩ := kWorkL_open h
 exact ⟨⟨ho.1, r0.2.1, ho.2, r1.2.1⟩, r3.2.1, r4.2.1, r5.2.1⟩
theorem Kw_of {w : World} {x : (List ByteArray × List S140 × Int × List Int × List Int × List Int)} {cs : List Value} (h : (Kd.iso dWork reW).K w x cs) : kWorkL.K w x cs := by
 obtain ⟨l0, l1, l2, l3, l4, l5⟩ := x
 obtain ⟨_, _, rfl, ⟨_, _, rfl, ⟨A0, c0, rfl, m0, r0⟩, ⟨A1, c1, rfl, m1, r1⟩⟩, ⟨_, _, rfl, rfl, ⟨_, _, rfl, ⟨A3, c3, rfl, m3, r3⟩, ⟨_, _, rfl, ⟨A4, c4, rfl, m4, r4⟩, ⟨A5, c5, rfl, m5, r5⟩⟩⟩⟩⟩ := h
 exact kWorkL_mk m0 r0 m1 r1 m3 r3 m4 r4 m5 r5
theorem Kt_of {w : World} {x : (S69 × (List ByteArray × List S140 × Int × List Int × List Int × List Int) × Int)} {cs : List Value} (h : dTxn.K w x cs) : kTxnL.K w x cs := by
 obtain ⟨c0, c1, rfl, h0, c2, c3, rfl, h1, h2⟩ := h
 exact ⟨c0, _, rfl, h0, c2, c3, rfl, Kw_of h1, h2⟩
def INt (x : (S69 × (List ByteArray × List S140 × Int × List Int × List Int × List Int) × Int)) : Prop := INm x.1.f3 ∧ INd x.2.1.1 x.2.1.2.1 ∧ INi x.2.1.2.2.2.1 ∧ INi x.2.1.2.2.2.2.1 ∧ INi x.2.1.2.2.2.2.2
theorem KT_len {w : World} {x : (S69 × (List ByteArray × List S140 × Int × List Int × List Int × List Int) × Int)} {cs : List Value} (h : kTxnL.K w x cs) (ho : okDisk (x.2.1.1, x.2.1.2.1)) : INt x := by
 obtain ⟨c0, c1, rfl, h0, c2, c3, rfl, h1, h2⟩ := h
 exact ⟨K69_len h0, KW_len h1 ho⟩
theorem open_store {H : Type} {enc : TypeId × Value → H} {w : World} {base b0 : Nat} {spare : Nat → Bool} {held : Bool} {r : Reach} {v : Value} {x : DataW H} {p : List MemPlace} (hv : Value.okWide Try.prog w r b0 74 v) (h : DataW.Trod enc Try.prog w base spare held 74 v x p) :
  ∃ (a : ((List ByteArray × List S140) × S69 × List S154 × (S69 × (List ByteArray × List S140 × Int × List Int × List Int × List Int) × Int) × Bool × Bool)) (cs : List Value), v = .agg cs.toArray ∧ kStoreL.K w a cs ∧ INs a := by
 obtain ⟨ok, ho, hk⟩ := opens74
 obtain ⟨a, cs, rfl, h1, h2⟩ := arg_struct Try.underlying74 ho hv h
 have g := hk _ h2
 obtain ⟨c0, _, rfl, h0, c1, _, rfl, h1, c2, _, rfl, h2, c3, _, rfl, h3, h4⟩ := h1
 have t := KT_len (Kt_of h3) g.2
 have hD : kDiskL.K w a.1 c0 := by
  obtain ⟨_, _, rfl, ⟨A0, c0, rfl, m0, r0⟩, ⟨A1, c1, rfl, m1, r1⟩⟩ := h0
  exact ⟨_, _, rfl, ⟨A0, c0, rfl, m0, r0⟩, ⟨A1, c1, rfl, m1, r1⟩⟩
 obtain ⟨AR, cR, rfl, mR, rR⟩ := h2
 exact ⟨a, _, rfl, ⟨c0, _, rfl, hD, c1, _, rfl, h1, _, _, rfl, ⟨AR, cR, rfl, mR, rR⟩, c3, _, rfl, Kt_of h3, h4⟩, KD_len hD g.1, K69_len h1, ⟨C154_len rR, rR.2.1⟩, t⟩
end Go.Proofs.Ytonhdiemjgdcnaa.PFnExactGivePage
