import Derived.Test.YtapholbdjccapaaTE2
import Derived.Test.YtapholbdjccapaaProg
import Derived.Laws.Cover1
set_option maxHeartbeats 64000000
set_option maxRecDepth 100000
set_option linter.unusedVariables false
set_option linter.unusedSimpArgs false
namespace Go.Proofs.Ytapholbdjccapaa.PFnExactTreeOk
open Go.RowKit Go.Proofs.YtapholbdjccapaaW.PrintWords Go.Proofs.YtapholbdjccapaaW.PrintLast Go.Proofs.YtapholbdjccapaaW.PrintMore
attribute [local go_sem] max2_int min2_int max_two min_two max_three min_three max_four min_four
theorem one_store {P : Program} {α : Type} {d : Kd α} {e base : Nat} {w : World} {ok : Nat → Prop} {v : Value} {xs : List α} (h : Kd.R d e w base ok v xs) : ∀ (a : Addr) (m : Mode) (W : World), (store a v m).run P W = stored P W a v m := by
 obtain ⟨A, c, rfl⟩ := Kd.R_slice h
 intro a m W
 exact run_store P W a _ m rfl
def errW : Option Int → Value
 | none => .nilIface
 | some c => .iface 0 (.int .i64 c)
theorem errW_none : errW none = .nilIface := rfl
theorem errW_some (c : Int) : errW (some c) = .iface 0 (.int .i64 c) := rfl
theorem info5 : (Try.prog.info? 5).map (fun i => (i.zero, i.size, i.bytes)) = some (some (.int .u8 0), 1, 1) := by kernel_rfl
theorem info9 : (Try.prog.info? 9).map (fun i => (i.zero, i.size, i.bytes)) = some (some (.string ⟨#[]⟩), 1, 16) := by kernel_rfl
theorem info189 : (Try.prog.info? 189).map (fun i => (i.zero, i.size, i.bytes)) = some (some (.agg #[(.int .i64 0), (.string ⟨#[]⟩)]), 2, 24) := by kernel_rfl
structure S187 where
 f0 : Int
 f1 : ByteArray
def z187 : S187 := ⟨(0 : Int), (⟨#[]⟩ : ByteArray)⟩
def k187 : Kd S187 := Kd.iso (Kd.pair (Kd.int .i64) Kd.string) (fun x : S187 => (x.f0, x.f1))
theorem k187_open {w : World} {x : S187} {cs : List Value} (h : k187.K w x cs) : cs = [.int .i64 x.f0, .string x.f1] := by
 obtain ⟨_, _, rfl, rfl, rfl⟩ := h
 exact rfl
def rd_T187 (xs : List S187) (i : Int) : S187 := xs.getD i.toNat z187
theorem at_T187 {w : World} {A : Option Addr} {n : Nat} {xs : List S187} (h : Kd.C k187 w A n xs) (i : Int) (h0 : 0 ≤ i) (h1 : i < n) : ∃ ad , A = some ad ∧ w.cell? (ad.add (i.toNat * 2)) = some (.int .i64 (rd_T187 xs i).f0) ∧ w.cell? ⟨(ad.add (i.toNat * 2)).block, (ad.add (i.toNat * 2)).off + 1, none⟩ = some (.string (rd_T187 xs i).f1) := by
 obtain ⟨ad, c, e, _, hK, hc0⟩ := Kd.C_get h z187 i h0 h1
 have hc : ∀ j u, c[j]? = some u → w.cell? (ad.add (i.toNat * 2 + j)) = some u := hc0
 obtain rfl := k187_open hK
 exact ⟨ad, e, hc 0 _ rfl, by rw [← add_field _ _ 1 (by omega)]; exact hc 1 _ rfl⟩
structure S68 where
 f0 : Bool
 f1 : (List ByteArray)
 f2 : (List ByteArray)
 f3 : (List Int)
def z68 : S68 := ⟨false, ([] : List ByteArray), ([] : List ByteArray), ([] : List Int)⟩
structure S189 where
 f0 : Int
 f1 : ByteArray
def z189 : S189 := ⟨(0 : Int), (⟨#[]⟩ : ByteArray)⟩
def k189 : Kd S189 := Kd.iso (Kd.pair (Kd.int .i64) Kd.string) (fun x : S189 => (x.f0, x.f1))
theorem k189_open {w : World} {x : S189} {cs : List Value} (h : k189.K w x cs) : cs = [.int .i64 x.f0, .string x.f1] := by
 obtain ⟨_, _, rfl, rfl, rfl⟩ := h
 exact rfl
theorem k189_openM {w : World} {base : Nat} {ok : Nat → Prop} {x : S189} {cs : List Value} (h : k189.M w base ok x cs) : cs = [.int .i64 x.f0, .string x.f1] := by
 obtain ⟨_, _, rfl, rfl, rfl⟩ := h
 exact rfl
theorem k189_mkM (w : World) (base : Nat) (ok : Nat → Prop) (x : S189)  : k189.M w base ok x [.int .i64 x.f0, .string x.f1] := ⟨[.int .i64 x.f0], [.string x.f1], rfl, rfl, rfl⟩
def rd_T189 (xs : List S189) (i : Int) : S189 := xs.getD i.toNat z189
theorem at_T189 {w : World} {A : Option Addr} {n : Nat} {xs : List S189} (h : Kd.C k189 w A n xs) (i : Int) (h0 : 0 ≤ i) (h1 : i < n) : ∃ ad , A = some ad ∧ w.cell? (ad.add (i.toNat * 2)) = some (.int .i64 (rd_T189 xs i).f0) ∧ w.cell? ⟨(ad.add (i.toNat * 2)).block, (ad.add (i.toNat * 2)).off + 1, none⟩ = some (.string (rd_T189 xs i).f1) := by
 obtain ⟨ad, c, e, _, hK, hc0⟩ := Kd.C_get h z189 i h0 h1
 have hc : ∀ j u, c[j]? = some u → w.cell? (ad.add (i.toNat * 2 + j)) = some u := hc0
 obtain rfl := k189_open hK
 exact ⟨ad, e, hc 0 _ rfl, by rw [← add_field _ _ 1 (by omega)]; exact hc 1 _ rfl⟩
structure S140 where
 f0 : ByteArray
 f1 : ByteArray
def z140 : S140 := ⟨(⟨#[]⟩ : ByteArray), (⟨#[]⟩ : ByteArray)⟩
def k140 : Kd S140 := Kd.iso (Kd.pair Kd.string Kd.string) (fun x : S140 => (x.f0, x.f1))
theorem k140_open {w : World} {x : S140} {cs : List Value} (h : k140.K w x cs) : cs = [.string x.f0, .string x.f1] := by
 obtain ⟨_, _, rfl, rfl, rfl⟩ := h
 exact rfl
theorem k140_mkM (w : World) (base : Nat) (ok : Nat → Prop) (x : S140)  : k140.M w base ok x [.string x.f0, .string x.f1] := ⟨[.string x.f0], [.string x.f1], rfl, rfl, rfl⟩
def rd_T140 (xs : List S140) (i : Int) : S140 := xs.getD i.toNat z140
theorem at_T140 {w : World} {A : Option Addr} {n : Nat} {xs : List S140} (h : Kd.C k140 w A n xs) (i : Int) (h0 : 0 ≤ i) (h1 : i < n) : ∃ ad , A = some ad ∧ w.cell? (ad.add (i.toNat * 2)) = some (.string (rd_T140 xs i).f0) ∧ w.cell? ⟨(ad.add (i.toNat * 2)).block, (ad.add (i.toNat * 2)).off + 1, none⟩ = some (.string (rd_T140 xs i).f1) := by
 obtain ⟨ad, c, e, _, hK, hc0⟩ := Kd.C_get h z140 i h0 h1
 have hc : ∀ j u, c[j]? = some u → w.cell? (ad.add (i.toNat * 2 + j)) = some u := hc0
 obtain rfl := k140_open hK
 exact ⟨ad, e, hc 0 _ rfl, by rw [← add_field _ _ 1 (by omega)]; exact hc 1 _ rfl⟩
def laws_szStringS.l0 : Nat → List ByteArray → Int → Int → Option (Int)
 | 0, _, _, _ => none
 | k + 1, x0, x1, x5 => if x5 < (x0.length : Int) then (if 0 ≤ x5 then (if (wrap64 (x1 - ((rdOf ByteArray.empty x0 x5).size : Int))) < 0 then (some (-1)) else (laws_szStringS.l0 k x0 (wrap64 (x1 - ((rdOf ByteArray.empty x0 x5).size : Int))) (wrap64 (x5 + 1)))) else (none)) else (some x1)
def laws_szStringS.f (k : Nat) (l0 : List ByteArray) (a1 : Int) : Option (Int) := if (wrap64 (a1 - (l0.length : Int))) < 0 then (some (-1)) else (laws_szStringS.l0 k l0 (wrap64 (a1 - (l0.length : Int))) 0)
theorem laws_szStringS.mono_l : ∀ k, (∀ y0 y1 y2, LeO (laws_szStringS.l0 k y0 y1 y2) (laws_szStringS.l0 (k + 1) y0 y1 y2))
 | 0 => fun _ _ _ r h => by simp [laws_szStringS.l0] at h
 | k + 1 => by
  have ih0 := laws_szStringS.mono_l k
  ·intro y0 y1 y2
   unfold laws_szStringS.l0
   repeat' first
   | (with_reducible exact ih0 _ _ _)
   | (with_reducible exact LeO.refl _)
   | (with_reducible exact LeO.none _)
   | (with_reducible refine LeO.ite ?_ ?_)
   | (with_reducible refine LeO.bind ?_ (fun _ => ?_))
   | exact ih0 _ _ _
theorem laws_szStringS.mono : ∀ a0 a1 k, LeO (laws_szStringS.f k a0 a1) (laws_szStringS.f (k + 1) a0 a1) := by
 intro a0 a1 k
 have ih0 := laws_szStringS.mono_l k
 unfold laws_szStringS.f
 repeat' first
   | (with_reducible exact ih0 _ _ _)
   | (with_reducible exact LeO.refl _)
   | (with_reducible exact LeO.none _)
   | (with_reducible refine LeO.ite ?_ ?_)
   | (with_reducible refine LeO.bind ?_ (fun _ => ?_))
   | exact ih0 _ _ _
theorem laws_szStringS.calls (k : Nat) (A0 : Option Addr) (c0 : Nat) (l0 : List ByteArray) (a1 : Int) (r : Int) (w : World) (hr0 : Kd.C Kd.string w A0 l0.length l0) (hc0 : l0.length ≤ c0) (h : laws_szStringS.f k l0 a1 = some r) :
  Calls Try.prog 94 #[.slice A0 l0.length c0, .int .i64 a1] w fun e w' => e = .returned (.int .i64 r) ∧ Drawn0 w w' := by
 have HR0 := Aside0.mk hr0
 have HC0 := Aside0.mk hc0
 clear hr0 hc0
 have H : (if (wrap64 (a1 - (l0.length : Int))) < 0 then (some (-1)) else (laws_szStringS.l0 k l0 (wrap64 (a1 - (l0.length : Int))) 0)) = some r := h
 clear h
 by_cases c3 : (wrap64 (a1 - (l0.length : Int))) < 0
 ·rw [if_pos c3] at H
  have c3b0 : decide ((wrap64 (a1 - (l0.length : Int))) < 0) = true := decide_eq_true c3
  clear c3
  obtain rfl := Option.some.inj H
  go_enter Try.func94, Try.ntmps94
  go_wp2
  go_ret
  exact ⟨by first | rfl | (simp; done) | (simp [*]; done), by repeat (first | exact Drawn0.refl _ | apply Drawn0.step)⟩
 ·rw [if_neg c3] at H
  have c3b0 : decide ((wrap64 (a1 - (l0.length : Int))) < 0) = false := decide_eq_false c3
  clear c3
  have H' := Aside0.mk H
  clear H
  go_enter Try.func94, Try.ntmps94
  go_wp2
  go_loopg [1, 5] k (fun kq v1 v5 w' => ∃ (x1_1 : Int) (x5_1 : Int), v1 = .int .i64 x1_1 ∧ v5 = .int .i64 x5_1 ∧ Aside0 (laws_szStringS.l0 kq l0 x1_1 x5_1 = some r) ∧ Aside0 (kq ≤ k) ∧ Drawn0 w w')
  case atStart => exact ⟨(wrap64 (a1 - (l0.length : Int))), (0), (by first | rfl | (simp; done) | (simp [*]; done)), (by first | rfl | (simp; done) | (simp [*]; done)), H', ⟨Nat.le_refl _⟩, by repeat (first | exact Drawn0.refl _ | apply Drawn0.step)⟩
  case round =>
   clear H'
   try clear c3
   try clear c3b0
   obtain ⟨x1_1, x5_1, rfl, rfl, HA, HK1, ⟨m1, rfl⟩⟩ := hrel
   cases gk with
   | zero => exact absurd HA.out (by simp [laws_szStringS.l0])
   | succ k1 =>
    have H := HA.out
    clear HA
    simp only [laws_szStringS.l0] at H
    by_cases c4 : x5_1 < (l0.length : Int)
    ·rw [if_pos c4] at H
     have c4b0 : decide (x5_1 < (l0.length : Int)) = true := decide_eq_true c4
     clear c4
     by_cases c5 : 0 ≤ x5_1
     ·rw [if_pos c5] at H
      have c5b0 : decide (0 ≤ x5_1) = true := decide_eq_true c5
      clear c5
      by_cases c6 : (wrap64 (x1_1 - ((rdOf ByteArray.empty l0 x5_1).size : Int))) < 0
      ·rw [if_pos c6] at H
       have c6b0 : decide ((wrap64 (x1_1 - ((rdOf ByteArray.empty l0 x5_1).size : Int))) < 0) = true := decide_eq_true c6
       clear c6
       obtain rfl := Option.some.inj H
       have p101 : 0 ≤ (x5_1 : Int) := of_decide_eq_true (by with_reducible assumption)
       have q101 : x5_1 < (l0.length : Int) := of_decide_eq_true (by with_reducible assumption)
       obtain ⟨ad101, e101, hx101_0⟩ := Kd.at_string HR0.out x5_1 p101 q101
       cases e101
       replace p101 := eq_true p101
       replace q101 := eq_true q101
       go_wp2
       go_ret
       exact ⟨by first | rfl | (simp; done) | (simp [*]; done), by repeat (first | exact Drawn0.refl _ | apply Drawn0.step)⟩
      ·rw [if_neg c6] at H
       have c6b0 : decide ((wrap64 (x1_1 - ((rdOf ByteArray.empty l0 x5_1).size : Int))) < 0) = false := decide_eq_false c6
       clear c6
       have H' := Aside0.mk H
       clear H
       have p101 : 0 ≤ (x5_1 : Int) := of_decide_eq_true (by with_reducible assumption)
       have q101 : x5_1 < (l0.length : Int) := of_decide_eq_true (by with_reducible assumption)
       obtain ⟨ad101, e101, hx101_0⟩ := Kd.at_string HR0.out x5_1 p101 q101
       cases e101
       replace p101 := eq_true p101
       replace q101 := eq_true q101
       go_wp2
       go_roundg k1
       case measure => have := HK1.out; omega
       case rel => exact ⟨(wrap64 (x1_1 - ((rdOf ByteArray.empty l0 x5_1).size : Int))), (wrap64 (x5_1 + 1)), (by first | rfl | (simp; done) | (simp [*]; done)), (by first | rfl | (simp; done) | (simp [*]; done)), H', ⟨by have := HK1.out; omega⟩, by repeat (first | exact Drawn0.refl _ | apply Drawn0.step)⟩
     ·rw [if_neg c5] at H
      exact absurd H (by simp)
    ·rw [if_neg c4] at H
     have c4b0 : decide (x5_1 < (l0.length : Int)) = false := decide_eq_false c4
     clear c4
     obtain rfl := Option.some.inj H
     go_wp2
     go_ret
     exact ⟨by first | rfl | (simp; done) | (simp [*]; done), by repeat (first | exact Drawn0.refl _ | apply Drawn0.step)⟩
def laws_szPut.f (a0_0 : Int) (a0_1 : ByteArray) (a1 : Int) : Option (Int) := if (wrap64 (a1 - (a0_1.size : Int))) < 0 then (some (-1)) else (some (wrap64 (a1 - (a0_1.size : Int))))
theorem laws_szPut.calls (a0_0 : Int) (a0_1 : ByteArray) (a1 : Int) (r : Int) (w : World) (h : laws_szPut.f a0_0 a0_1 a1 = some r) :
  Calls Try.prog 139 #[.agg #[.int .i64 a0_0, .string a0_1], .int .i64 a1] w fun e w' => e = .returned (.int .i64 r) ∧ Below w.heap.size w w' := by
 have hu187 := Try.underlying187
 have HB := Aside0.mk (Below.refl w.heap.size w)
 have H : (if (wrap64 (a1 - (a0_1.size : Int))) < 0 then (some (-1)) else (some (wrap64 (a1 - (a0_1.size : Int))))) = some r := h
 clear h
 by_cases c3 : (wrap64 (a1 - (a0_1.size : Int))) < 0
 ·rw [if_pos c3] at H
  have c3b0 : decide ((wrap64 (a1 - (a0_1.size : Int))) < 0) = true := decide_eq_true c3
  clear c3
  obtain rfl := Option.some.inj H
  go_enter Try.func139, Try.ntmps139
  go_wp2_with (first | ((with_reducible refine gate_dst (N := 2) rfl ?_); refine box_event ?hg (N := 2) ?hd (cs := #[.int .i64 a0_0, .string a0_1]) (t := 187) ?hr ?_; (case hd => rfl); (case hg => rfl); (case hr => first | (go_simp; done) | (go_simp; rfl)); intro gb102 hg w4 hbox hb; have n0_ := Aside0.mk (below_step (by repeat (first | (with_reducible first | exact HB.out | apply below_alloc | apply pw_below_drewN | apply below_drew1) | exact HB.out)) hb); have n1_ := Aside0.mk (hbox); have n2_ := Aside0.mk ((by rw [hg]; exact (below_size (by repeat (first | (with_reducible first | exact HB.out | apply below_alloc | apply pw_below_drewN | apply below_drew1) | exact HB.out))) : w.heap.size ≤ gb102)); have n3_ := Aside0.mk ((by rw [hg]; exact (below_size (by repeat (first | (with_reducible first | exact HB.out | apply below_alloc | apply pw_below_drewN | apply below_drew1) | exact HB.out))) : w.heap.size ≤ gb102)); clear HB; have HB := n0_; have BK102 := n1_; have GW102 := n2_; have GE102 := n3_; clear n0_ n1_ n2_ n3_; clear hb hbox hg; have hcz5_0 : w4.cell? ⟨gb102, 0, none⟩ = some (.int .i64 a0_0) := (blk_cell BK102.out 0).trans rfl; have hcz5_1 : w4.cell? ⟨gb102, 1, none⟩ = some (.string a0_1) := (blk_cell BK102.out 1).trans rfl; have hfz5_0 := blk_frozen BK102.out 0; have hfz5_1 := blk_frozen BK102.out 1))
  go_ret
  exact ⟨by first | rfl | (simp [errW_none, errW_some] <;> rfl) | (simp [*, errW_none, errW_some] <;> rfl), by repeat (first | (with_reducible first | exact HB.out | apply below_alloc | apply pw_below_drewN | apply below_drew1 | refine below_set ?_ GE102.out) | exact HB.out)⟩
 ·rw [if_neg c3] at H
  have c3b0 : decide ((wrap64 (a1 - (a0_1.size : Int))) < 0) = false := decide_eq_false c3
  clear c3
  obtain rfl := Option.some.inj H
  go_enter Try.func139, Try.ntmps139
  go_wp2_with (first | ((with_reducible refine gate_dst (N := 2) rfl ?_); refine box_event ?hg (N := 2) ?hd (cs := #[.int .i64 a0_0, .string a0_1]) (t := 187) ?hr ?_; (case hd => rfl); (case hg => rfl); (case hr => first | (go_simp; done) | (go_simp; rfl)); intro gb102 hg w6 hbox hb; have n0_ := Aside0.mk (below_step (by repeat (first | (with_reducible first | exact HB.out | apply below_alloc | apply pw_below_drewN | apply below_drew1) | exact HB.out)) hb); have n1_ := Aside0.mk (hbox); have n2_ := Aside0.mk ((by rw [hg]; exact (below_size (by repeat (first | (with_reducible first | exact HB.out | apply below_alloc | apply pw_below_drewN | apply below_drew1) | exact HB.out))) : w.heap.size ≤ gb102)); have n3_ := Aside0.mk ((by rw [hg]; exact (below_size (by repeat (first | (with_reducible first | exact HB.out | apply below_alloc | apply pw_below_drewN | apply below_drew1) | exact HB.out))) : w.heap.size ≤ gb102)); clear HB; have HB := n0_; have BK102 := n1_; have GW102 := n2_; have GE102 := n3_; clear n0_ n1_ n2_ n3_; clear hb hbox hg; have hcz7_0 : w6.cell? ⟨gb102, 0, none⟩ = some (.int .i64 a0_0) := (blk_cell BK102.out 0).trans rfl; have hcz7_1 : w6.cell? ⟨gb102, 1, none⟩ = some (.string a0_1) := (blk_cell BK102.out 1).trans rfl; have hfz7_0 := blk_frozen BK102.out 0; have hfz7_1 := blk_frozen BK102.out 1))
  go_ret
  exact ⟨by first | rfl | (simp [errW_none, errW_some] <;> rfl) | (simp [*, errW_none, errW_some] <;> rfl), by repeat (first | (with_reducible first | exact HB.out | apply below_alloc | apply pw_below_drewN | apply below_drew1 | refine below_set ?_ GE102.out) | exact HB.out)⟩
def laws_szPutS.l0 : Nat → List (S187) → Int → Int → Option (Int)
 | 0, _, _, _ => none
 | k + 1, x0, x1, x5 => if x5 < (x0.length : Int) then (if 0 ≤ x5 then ((laws_szPut.f ((rd_T187 x0 x5).f0) ((rd_T187 x0 x5).f1) x1).bind fun t104 => (if t104 < 0 then (some (-1)) else (laws_szPutS.l0 k x0 t104 (wrap64 (x5 + 1))))) else (none)) else (some x1)
def laws_szPutS.f (k : Nat) (l0 : List (S187)) (a1 : Int) : Option (Int) := if (wrap64 (a1 - (l0.length : Int))) < 0 then (some (-1)) else (laws_szPutS.l0 k l0 (wrap64 (a1 - (l0.length : Int))) 0)
theorem laws_szPutS.mono_l : ∀ k, (∀ y0 y1 y2, LeO (laws_szPutS.l0 k y0 y1 y2) (laws_szPutS.l0 (k + 1) y0 y1 y2))
 | 0 => fun _ _ _ r h => by simp [laws_szPutS.l0] at h
 | k + 1 => by
  have ih0 := laws_szPutS.mono_l k
  ·intro y0 y1 y2
   unfold laws_szPutS.l0
   repeat' first
   | (with_reducible exact ih0 _ _ _)
   | (with_reducible exact LeO.refl _)
   | (with_reducible exact LeO.none _)
   | (with_reducible refine LeO.ite ?_ ?_)
   | (with_reducible refine LeO.bind ?_ (fun _ => ?_))
   | exact ih0 _ _ _
theorem laws_szPutS.mono : ∀ a0 a1 k, LeO (laws_szPutS.f k a0 a1) (laws_szPutS.f (k + 1) a0 a1) := by
 intro a0 a1 k
 have ih0 := laws_szPutS.mono_l k
 unfold laws_szPutS.f
 repeat' first
   | (with_reducible exact ih0 _ _ _)
   | (with_reducible exact LeO.refl _)
   | (with_reducible exact LeO.none _)
   | (with_reducible refine LeO.ite ?_ ?_)
   | (with_reducible refine LeO.bind ?_ (fun _ => ?_))
   | exact ih0 _ _ _
theorem laws_szPutS.calls (k : Nat) (A0 : Option Addr) (c0 : Nat) (l0 : List (S187)) (a1 : Int) (r : Int) (w : World) (hr0 : Kd.C k187 w A0 l0.length l0) (hc0 : l0.length ≤ c0) (h : laws_szPutS.f k l0 a1 = some r) :
  Calls Try.prog 95 #[.slice A0 l0.length c0, .int .i64 a1] w fun e w' => e = .returned (.int .i64 r) ∧ Below w.heap.size w w' := by
 have hu187 := Try.underlying187
 have HR0 := Aside0.mk hr0
 have HC0 := Aside0.mk hc0
 clear hr0 hc0
 have HB := Aside0.mk (Below.refl w.heap.size w)
 have H : (if (wrap64 (a1 - (l0.length : Int))) < 0 then (some (-1)) else (laws_szPutS.l0 k l0 (wrap64 (a1 - (l0.length : Int))) 0)) = some r := h
 clear h
 by_cases c3 : (wrap64 (a1 - (l0.length : Int))) < 0
 ·rw [if_pos c3] at H
  have c3b0 : decide ((wrap64 (a1 - (l0.length : Int))) < 0) = true := decide_eq_true c3
  clear c3
  obtain rfl := Option.some.inj H
  go_enter Try.func95, Try.ntmps95
  go_wp2
  go_ret
  exact ⟨by first | rfl | (simp [errW_none, errW_some] <;> rfl) | (simp [*, errW_none, errW_some] <;> rfl), by repeat (first | (with_reducible first | exact HB.out | apply below_alloc | apply pw_below_drewN | apply below_drew1) | exact HB.out)⟩
 ·rw [if_neg c3] at H
  have c3b0 : decide ((wrap64 (a1 - (l0.length : Int))) < 0) = false := decide_eq_false c3
  clear c3
  have H' := Aside0.mk H
  clear H
  go_enter Try.func95, Try.ntmps95
  go_wp2
  go_loopg [1, 5] k (fun kq v1 v5 w' => ∃ (x1_1 : Int) (x5_1 : Int), v1 = .int .i64 x1_1 ∧ v5 = .int .i64 x5_1 ∧ Aside0 (laws_szPutS.l0 kq l0 x1_1 x5_1 = some r) ∧ Aside0 (kq ≤ k) ∧ Aside0 (Below w.heap.size w w'))
  case atStart => exact ⟨(wrap64 (a1 - (l0.length : Int))), (0), (by first | rfl | (simp; done) | (simp [*]; done)), (by first | rfl | (simp; done) | (simp [*]; done)), H', ⟨Nat.le_refl _⟩, ⟨by repeat (first | (with_reducible first | exact HB.out | apply below_alloc | apply pw_below_drewN | apply below_drew1) | exact HB.out)⟩⟩
  case round =>
   clear H'
   try clear c3
   try clear c3b0
   obtain ⟨x1_1, x5_1, rfl, rfl, HA, HK1, HB⟩ := hrel
   cases gk with
   | zero => exact absurd HA.out (by simp [laws_szPutS.l0])
   | succ k1 =>
    have H := HA.out
    clear HA
    simp only [laws_szPutS.l0] at H
    by_cases c4 : x5_1 < (l0.length : Int)
    ·rw [if_pos c4] at H
     have c4b0 : decide (x5_1 < (l0.length : Int)) = true := decide_eq_true c4
     clear c4
     by_cases c5 : 0 ≤ x5_1
     ·rw [if_pos c5] at H
      have c5b0 : decide (0 ≤ x5_1) = true := decide_eq_true c5
      clear c5
      replace H := Option.bind_eq_some_iff.mp H
      obtain ⟨t104, A60, H⟩ := H
      replace H : (if t104 < 0 then (some (-1)) else (laws_szPutS.l0 k1 l0 t104 (wrap64 (x5_1 + 1)))) = some r := H
      have A6 := Aside0.mk A60
      clear A60
      by_cases c7 : t104 < 0
      ·rw [if_pos c7] at H
       have c7b0 : decide (t104 < 0) = true := decide_eq_true c7
       clear c7
       obtain rfl := Option.some.inj H
       have p103 : 0 ≤ (x5_1 : Int) := of_decide_eq_true (by with_reducible assumption)
       have q103 : x5_1 < (l0.length : Int) := of_decide_eq_true (by with_reducible assumption)
       obtain ⟨ad103, e103, hx103_0, hx103_1⟩ := at_T187 HR0.out x5_1 p103 q103
       cases e103
       replace hx103_0 := (HB.out.cell (World.block_lt_of_cell? w _ hx103_0)).trans hx103_0
       replace hx103_1 := (HB.out.cell (World.block_lt_of_cell? w _ hx103_1)).trans hx103_1
       replace p103 := eq_true p103
       replace q103 := eq_true q103
       go_wp2_with (first | ((with_reducible refine gate_callee (f := 139) rfl ?_); refine goesL_ (some 23) rfl rfl Try.func139 (by kernel_rfl) rfl #[.agg #[.int .i64 ((rd_T187 l0 x5_1).f0), .string ((rd_T187 l0 x5_1).f1)], .int .i64 x1_1] rfl (by (try simp only [List.map_toArray, List.map_cons, List.map_nil]); first | done | rfl | (simp only [List.length_drop, List.length_take]; rfl)) ?_; (with_reducible refine (laws_szPut.calls ((rd_T187 l0 x5_1).f0) ((rd_T187 l0 x5_1).f1) x1_1 t104 _ A6.out).mono ?_); rintro e w8 ⟨rfl, hb⟩; refine ⟨_, rfl, ?_⟩; have n0_ := Aside0.mk (below_step (by repeat (first | (with_reducible first | exact HB.out | apply below_alloc | apply pw_below_drewN | apply below_drew1) | exact HB.out)) hb); clear HB; have HB := n0_; clear n0_; (try clear hb); (try clear hb2); (try clear hk); (try clear hi)))
       go_ret
       exact ⟨by first | rfl | (simp [errW_none, errW_some] <;> rfl) | (simp [*, errW_none, errW_some] <;> rfl), by repeat (first | (with_reducible first | exact HB.out | apply below_alloc | apply pw_below_drewN | apply below_drew1) | exact HB.out)⟩
      ·rw [if_neg c7] at H
       have c7b0 : decide (t104 < 0) = false := decide_eq_false c7
       clear c7
       have H' := Aside0.mk H
       clear H
       have p103 : 0 ≤ (x5_1 : Int) := of_decide_eq_true (by with_reducible assumption)
       have q103 : x5_1 < (l0.length : Int) := of_decide_eq_true (by with_reducible assumption)
       obtain ⟨ad103, e103, hx103_0, hx103_1⟩ := at_T187 HR0.out x5_1 p103 q103
       cases e103
       replace hx103_0 := (HB.out.cell (World.block_lt_of_cell? w _ hx103_0)).trans hx103_0
       replace hx103_1 := (HB.out.cell (World.block_lt_of_cell? w _ hx103_1)).trans hx103_1
       replace p103 := eq_true p103
       replace q103 := eq_true q103
       go_wp2_with (first | ((with_reducible refine gate_callee (f := 139) rfl ?_); refine goesL_ (some 23) rfl rfl Try.func139 (by kernel_rfl) rfl #[.agg #[.int .i64 ((rd_T187 l0 x5_1).f0), .string ((rd_T187 l0 x5_1).f1)], .int .i64 x1_1] rfl (by (try simp only [List.map_toArray, List.map_cons, List.map_nil]); first | done | rfl | (simp only [List.length_drop, List.length_take]; rfl)) ?_; (with_reducible refine (laws_szPut.calls ((rd_T187 l0 x5_1).f0) ((rd_T187 l0 x5_1).f1) x1_1 t104 _ A6.out).mono ?_); rintro e w9 ⟨rfl, hb⟩; refine ⟨_, rfl, ?_⟩; have n0_ := Aside0.mk (below_step (by repeat (first | (with_reducible first | exact HB.out | apply below_alloc | apply pw_below_drewN | apply below_drew1) | exact HB.out)) hb); clear HB; have HB := n0_; clear n0_; (try clear hb); (try clear hb2); (try clear hk); (try clear hi)))
       go_roundg k1
       case measure => have := HK1.out; omega
       case rel => exact ⟨(t104), (wrap64 (x5_1 + 1)), (by first | rfl | (simp; done) | (simp [*]; done)), (by first | rfl | (simp; done) | (simp [*]; done)), H', ⟨by have := HK1.out; omega⟩, ⟨by repeat (first | (with_reducible first | exact HB.out | apply below_alloc | apply pw_below_drewN | apply below_drew1) | exact HB.out)⟩⟩
     ·rw [if_neg c5] at H
      exact absurd H (by simp)
    ·rw [if_neg c4] at H
     have c4b0 : decide (x5_1 < (l0.length : Int)) = false := decide_eq_false c4
     clear c4
     obtain rfl := Option.some.inj H
     go_wp2
     go_ret
     exact ⟨by first | rfl | (simp [errW_none, errW_some] <;> rfl) | (simp [*, errW_none, errW_some] <;> rfl), by repeat (first | (with_reducible first | exact HB.out | apply below_alloc | apply pw_below_drewN | apply below_drew1) | exact HB.out)⟩
def laws_szDisk.f (k : Nat) (l0_0 : List ByteArray) (l0_1 : List (S187)) (a1 : Int) : Option (Int) := (laws_szStringS.f k l0_0 a1).bind fun t106 => (if t106 < 0 then (some (-1)) else ((laws_szPutS.f k l0_1 t106).bind fun t107 => (if t107 < 0 then (some (-1)) else (some t107))))
theorem laws_szDisk.mono : ∀ a0 a1 a2 k, LeO (laws_szDisk.f k a0 a1 a2) (laws_szDisk.f (k + 1) a0 a1 a2) := by
 intro a0 a1 a2 k
 unfold laws_szDisk.f
 repeat' first
   | (with_reducible exact laws_szPutS.mono _ _ _)
   | (with_reducible exact laws_szStringS.mono _ _ _)
   | (with_reducible exact LeO.refl _)
   | (with_reducible exact LeO.none _)
   | (with_reducible refine LeO.ite ?_ ?_)
   | (with_reducible refine LeO.bind ?_ (fun _ => ?_))
   | exact laws_szPutS.mono _ _ _
   | exact laws_szStringS.mono _ _ _
theorem laws_szDisk.calls (k : Nat) (A0_0 : Option Addr) (c0_0 : Nat) (l0_0 : List ByteArray) (A0_1 : Option Addr) (c0_1 : Nat) (l0_1 : List (S187)) (a1 : Int) (r : Int) (w : World) (hr0_0 : Kd.C Kd.string w A0_0 l0_0.length l0_0) (hc0_0 : l0_0.length ≤ c0_0) (hr0_1 : Kd.C k187 w A0_1 l0_1.length l0_1) (hc0_1 : l0_1.length ≤ c0_1) (h : laws_szDisk.f k l0_0 l0_1 a1 = some r) :
  Calls Try.prog 36 #[.agg #[.slice A0_0 l0_0.length c0_0, .slice A0_1 l0_1.length c0_1], .int .i64 a1] w fun e w' => e = .returned (.int .i64 r) ∧ Below w.heap.size w w' := by
 have hu25 := Try.underlying25
 have HR0_0 := Aside0.mk hr0_0
 have HC0_0 := Aside0.mk hc0_0
 clear hr0_0 hc0_0
 have HR0_1 := Aside0.mk hr0_1
 have HC0_1 := Aside0.mk hc0_1
 clear hr0_1 hc0_1
 have HB := Aside0.mk (Below.refl w.heap.size w)
 have H : ((laws_szStringS.f k l0_0 a1).bind fun t106 => (if t106 < 0 then (some (-1)) else ((laws_szPutS.f k l0_1 t106).bind fun t107 => (if t107 < 0 then (some (-1)) else (some t107))))) = some r := h
 clear h
 replace H := Option.bind_eq_some_iff.mp H
 obtain ⟨t106, A30, H⟩ := H
 replace H : (if t106 < 0 then (some (-1)) else ((laws_szPutS.f k l0_1 t106).bind fun t107 => (if t107 < 0 then (some (-1)) else (some t107)))) = some r := H
 have A3 := Aside0.mk A30
 clear A30
 by_cases c4 : t106 < 0
 ·rw [if_pos c4] at H
  have c4b0 : decide (t106 < 0) = true := decide_eq_true c4
  clear c4
  obtain rfl := Option.some.inj H
  go_enter Try.func36, Try.ntmps36
  go_wp2_with (first | ((with_reducible refine gate_dst (N := 2) rfl ?_); refine box_event ?hg (N := 2) ?hd (cs := #[.slice A0_0 l0_0.length c0_0, .slice A0_1 l0_1.length c0_1]) (t := 25) ?hr ?_; (case hd => rfl); (case hg => rfl); (case hr => first | (go_simp; done) | (go_simp; rfl)); intro gb105 hg w5 hbox hb; have n0_ := Aside0.mk (below_step (by repeat (first | (with_reducible first | exact HB.out | apply below_alloc | apply pw_below_drewN | apply below_drew1) | exact HB.out)) hb); have n1_ := Aside0.mk (hbox); have n2_ := Aside0.mk ((by rw [hg]; exact (below_size (by repeat (first | (with_reducible first | exact HB.out | apply below_alloc | apply pw_below_drewN | apply below_drew1) | exact HB.out))) : w.heap.size ≤ gb105)); have n3_ := Aside0.mk ((by rw [hg]; exact (below_size (by repeat (first | (with_reducible first | exact HB.out | apply below_alloc | apply pw_below_drewN | apply below_drew1) | exact HB.out))) : w.heap.size ≤ gb105)); clear HB; have HB := n0_; have BK105 := n1_; have GW105 := n2_; have GE105 := n3_; clear n0_ n1_ n2_ n3_; clear hb hbox hg; have hcz6_0 : w5.cell? ⟨gb105, 0, none⟩ = some (.slice A0_0 l0_0.length c0_0) := (blk_cell BK105.out 0).trans rfl; have hcz6_1 : w5.cell? ⟨gb105, 1, none⟩ = some (.slice A0_1 l0_1.length c0_1) := (blk_cell BK105.out 1).trans rfl; have hfz6_0 := blk_frozen BK105.out 0; have hfz6_1 := blk_frozen BK105.out 1) | ((with_reducible refine gate_callee (f := 94) rfl ?_); refine goesL_ (some 8) rfl rfl Try.func94 (by kernel_rfl) rfl #[.slice A0_0 l0_0.length c0_0, .int .i64 a1] rfl (by (try simp only [List.map_toArray, List.map_cons, List.map_nil]); first | done | rfl | (simp only [List.length_drop, List.length_take]; rfl)) ?_; (with_reducible refine (laws_szStringS.calls k _ _ l0_0 a1 t106 _ ?side1 ?side2 A3.out).mono ?_); (case side1 => repeat (first | exact (Kd.C_below HR0_0.out HB.out) | (with_reducible refine Kd.C_alloc ?_ _) | (with_reducible refine Kd.C_drewN ?_ _) | (with_reducible refine Kd.C_drew ?_))); (case side2 => exact HC0_0.out); rintro e w' ⟨rfl, ⟨nd, rfl⟩⟩; refine ⟨_, rfl, ?_⟩))
  go_ret
  exact ⟨by first | rfl | (simp [errW_none, errW_some] <;> rfl) | (simp [*, errW_none, errW_some] <;> rfl), by repeat (first | (with_reducible first | exact HB.out | apply below_alloc | apply pw_below_drewN | apply below_drew1 | refine below_set ?_ GE105.out) | exact HB.out)⟩
 ·rw [if_neg c4] at H
  have c4b0 : decide (t106 < 0) = false := decide_eq_false c4
  clear c4
  replace H := Option.bind_eq_some_iff.mp H
  obtain ⟨t107, A70, H⟩ := H
  replace H : (if t107 < 0 then (some (-1)) else (some t107)) = some r := H
  have A7 := Aside0.mk A70
  clear A70
  by_cases c8 : t107 < 0
  ·rw [if_pos c8] at H
   have c8b0 : decide (t107 < 0) = true := decide_eq_true c8
   clear c8
   obtain rfl := Option.some.inj H
   go_enter Try.func36, Try.ntmps36
   go_wp2_with (first | ((with_reducible refine gate_dst (N := 2) rfl ?_); refine box_event ?hg (N := 2) ?hd (cs := #[.slice A0_0 l0_0.length c0_0, .slice A0_1 l0_1.length c0_1]) (t := 25) ?hr ?_; (case hd => rfl); (case hg => rfl); (case hr => first | (go_simp; done) | (go_simp; rfl)); intro gb105 hg w9 hbox hb; have n0_ := Aside0.mk (below_step (by repeat (first | (with_reducible first | exact HB.out | apply below_alloc | apply pw_below_drewN | apply below_drew1) | exact HB.out)) hb); have n1_ := Aside0.mk (hbox); have n2_ := Aside0.mk ((by rw [hg]; exact (below_size (by repeat (first | (with_reducible first | exact HB.out | apply below_alloc | apply pw_below_drewN | apply below_drew1) | exact HB.out))) : w.heap.size ≤ gb105)); have n3_ := Aside0.mk ((by rw [hg]; exact (below_size (by repeat (first | (with_reducible first | exact HB.out | apply below_alloc | apply pw_below_drewN | apply below_drew1) | exact HB.out))) : w.heap.size ≤ gb105)); clear HB; have HB := n0_; have BK105 := n1_; have GW105 := n2_; have GE105 := n3_; clear n0_ n1_ n2_ n3_; clear hb hbox hg; have hcz10_0 : w9.cell? ⟨gb105, 0, none⟩ = some (.slice A0_0 l0_0.length c0_0) := (blk_cell BK105.out 0).trans rfl; have hcz10_1 : w9.cell? ⟨gb105, 1, none⟩ = some (.slice A0_1 l0_1.length c0_1) := (blk_cell BK105.out 1).trans rfl; have hfz10_0 := blk_frozen BK105.out 0; have hfz10_1 := blk_frozen BK105.out 1) | ((with_reducible refine gate_callee (f := 94) rfl ?_); refine goesL_ (some 8) rfl rfl Try.func94 (by kernel_rfl) rfl #[.slice A0_0 l0_0.length c0_0, .int .i64 a1] rfl (by (try simp only [List.map_toArray, List.map_cons, List.map_nil]); first | done | rfl | (simp only [List.length_drop, List.length_take]; rfl)) ?_; (with_reducible refine (laws_szStringS.calls k _ _ l0_0 a1 t106 _ ?side1 ?side2 A3.out).mono ?_); (case side1 => repeat (first | exact (Kd.C_below HR0_0.out HB.out) | (with_reducible refine Kd.C_alloc ?_ _) | (with_reducible refine Kd.C_drewN ?_ _) | (with_reducible refine Kd.C_drew ?_))); (case side2 => exact HC0_0.out); rintro e w' ⟨rfl, ⟨nd, rfl⟩⟩; refine ⟨_, rfl, ?_⟩) | ((with_reducible refine gate_callee (f := 95) rfl ?_); refine goesL_ (some 14) rfl rfl Try.func95 (by kernel_rfl) rfl #[.slice A0_1 l0_1.length c0_1, .int .i64 t106] rfl (by (try simp only [List.map_toArray, List.map_cons, List.map_nil]); first | done | rfl | (simp only [List.length_drop, List.length_take]; rfl)) ?_; (with_reducible refine (laws_szPutS.calls k _ _ l0_1 t106 t107 _ ?side1 ?side2 A7.out).mono ?_); (case side1 => repeat (first | exact (Kd.C_below HR0_1.out (by repeat (first | (with_reducible first | exact HB.out | apply below_alloc | apply pw_below_drewN | apply below_drew1 | refine below_set ?_ GE105.out) | exact HB.out))) | (with_reducible refine Kd.C_alloc ?_ _) | (with_reducible refine Kd.C_drewN ?_ _) | (with_reducible refine Kd.C_drew ?_))); (case side2 => exact HC0_1.out); rintro e w11 ⟨rfl, hb⟩; refine ⟨_, rfl, ?_⟩; have n0_ := Aside0.mk (blk_below (g := gb105) (o := .cells #[.slice A0_0 l0_0.length c0_0, .slice A0_1 l0_1.length c0_1] 25 (0, 0)) (by (with_reducible repeat (first | refine blk_drewN ?_ _ | refine blk_drew ?_ | refine blk_alloc ?_ _)); exact BK105.out) hb); have n1_ := Aside0.mk (below_step (by repeat (first | (with_reducible first | exact HB.out | apply below_alloc | apply pw_below_drewN | apply below_drew1 | refine below_set ?_ GE105.out) | exact HB.out)) hb); clear BK105; clear HB; have BK105 := n0_; have HB := n1_; clear n0_ n1_; (try clear hb); (try clear hb2); (try clear hk); (try clear hi)))
   go_ret
   exact ⟨by first | rfl | (simp [errW_none, errW_some] <;> rfl) | (simp [*, errW_none, errW_some] <;> rfl), by repeat (first | (with_reducible first | exact HB.out | apply below_alloc | apply pw_below_drewN | apply below_drew1 | refine below_set ?_ GE105.out) | exact HB.out)⟩
  ·rw [if_neg c8] at H
   have c8b0 : decide (t107 < 0) = false := decide_eq_false c8
   clear c8
   obtain rfl := Option.some.inj H
   go_enter Try.func36, Try.ntmps36
   go_wp2_with (first | ((with_reducible refine gate_dst (N := 2) rfl ?_); refine box_event ?hg (N := 2) ?hd (cs := #[.slice A0_0 l0_0.length c0_0, .slice A0_1 l0_1.length c0_1]) (t := 25) ?hr ?_; (case hd => rfl); (case hg => rfl); (case hr => first | (go_simp; done) | (go_simp; rfl)); intro gb105 hg w12 hbox hb; have n0_ := Aside0.mk (below_step (by repeat (first | (with_reducible first | exact HB.out | apply below_alloc | apply pw_below_drewN | apply below_drew1) | exact HB.out)) hb); have n1_ := Aside0.mk (hbox); have n2_ := Aside0.mk ((by rw [hg]; exact (below_size (by repeat (first | (with_reducible first | exact HB.out | apply below_alloc | apply pw_below_drewN | apply below_drew1) | exact HB.out))) : w.heap.size ≤ gb105)); have n3_ := Aside0.mk ((by rw [hg]; exact (below_size (by repeat (first | (with_reducible first | exact HB.out | apply below_alloc | apply pw_below_drewN | apply below_drew1) | exact HB.out))) : w.heap.size ≤ gb105)); clear HB; have HB := n0_; have BK105 := n1_; have GW105 := n2_; have GE105 := n3_; clear n0_ n1_ n2_ n3_; clear hb hbox hg; have hcz13_0 : w12.cell? ⟨gb105, 0, none⟩ = some (.slice A0_0 l0_0.length c0_0) := (blk_cell BK105.out 0).trans rfl; have hcz13_1 : w12.cell? ⟨gb105, 1, none⟩ = some (.slice A0_1 l0_1.length c0_1) := (blk_cell BK105.out 1).trans rfl; have hfz13_0 := blk_frozen BK105.out 0; have hfz13_1 := blk_frozen BK105.out 1) | ((with_reducible refine gate_callee (f := 94) rfl ?_); refine goesL_ (some 8) rfl rfl Try.func94 (by kernel_rfl) rfl #[.slice A0_0 l0_0.length c0_0, .int .i64 a1] rfl (by (try simp only [List.map_toArray, List.map_cons, List.map_nil]); first | done | rfl | (simp only [List.length_drop, List.length_take]; rfl)) ?_; (with_reducible refine (laws_szStringS.calls k _ _ l0_0 a1 t106 _ ?side1 ?side2 A3.out).mono ?_); (case side1 => repeat (first | exact (Kd.C_below HR0_0.out HB.out) | (with_reducible refine Kd.C_alloc ?_ _) | (with_reducible refine Kd.C_drewN ?_ _) | (with_reducible refine Kd.C_drew ?_))); (case side2 => exact HC0_0.out); rintro e w' ⟨rfl, ⟨nd, rfl⟩⟩; refine ⟨_, rfl, ?_⟩) | ((with_reducible refine gate_callee (f := 95) rfl ?_); refine goesL_ (some 14) rfl rfl Try.func95 (by kernel_rfl) rfl #[.slice A0_1 l0_1.length c0_1, .int .i64 t106] rfl (by (try simp only [List.map_toArray, List.map_cons, List.map_nil]); first | done | rfl | (simp only [List.length_drop, List.length_take]; rfl)) ?_; (with_reducible refine (laws_szPutS.calls k _ _ l0_1 t106 t107 _ ?side1 ?side2 A7.out).mono ?_); (case side1 => repeat (first | exact (Kd.C_below HR0_1.out (by repeat (first | (with_reducible first | exact HB.out | apply below_alloc | apply pw_below_drewN | apply below_drew1 | refine below_set ?_ GE105.out) | exact HB.out))) | (with_reducible refine Kd.C_alloc ?_ _) | (with_reducible refine Kd.C_drewN ?_ _) | (with_reducible refine Kd.C_drew ?_))); (case side2 => exact HC0_1.out); rintro e w14 ⟨rfl, hb⟩; refine ⟨_, rfl, ?_⟩; have n0_ := Aside0.mk (blk_below (g := gb105) (o := .cells #[.slice A0_0 l0_0.length c0_0, .slice A0_1 l0_1.length c0_1] 25 (0, 0)) (by (with_reducible repeat (first | refine blk_drewN ?_ _ | refine blk_drew ?_ | refine blk_alloc ?_ _)); exact BK105.out) hb); have n1_ := Aside0.mk (below_step (by repeat (first | (with_reducible first | exact HB.out | apply below_alloc | apply pw_below_drewN | apply below_drew1 | refine below_set ?_ GE105.out) | exact HB.out)) hb); clear BK105; clear HB; have BK105 := n0_; have HB := n1_; clear n0_ n1_; (try clear hb); (try clear hb2); (try clear hk); (try clear hi)))
   go_ret
   exact ⟨by first | rfl | (simp [errW_none, errW_some] <;> rfl) | (simp [*, errW_none, errW_some] <;> rfl), by repeat (first | (with_reducible first | exact HB.out | apply below_alloc | apply pw_below_drewN | apply below_drew1 | refine below_set ?_ GE105.out) | exact HB.out)⟩
def spec_l02Four.f (a0 : Int) : Option (ByteArray) := some (strOfNums (([(a0 / 16777216) % 256, (a0 / 65536) % 256, (a0 / 256) % 256, (a0) % 256] : List Int)))
theorem spec_l02Four.calls (a0 : Int) (r : ByteArray) (w : World) (h : spec_l02Four.f a0 = some r) :
  Calls Try.prog 127 #[.int .u32 a0] w fun e w' => e = .returned (.string r) ∧ Below w.heap.size w w' := by
 have HB := Aside0.mk (Below.refl w.heap.size w)
 have H : (some (strOfNums (([(a0 / 16777216) % 256, (a0 / 65536) % 256, (a0 / 256) % 256, (a0) % 256] : List Int)))) = some r := h
 clear h
 obtain ⟨y108, hy108⟩ : ∃ y_ : List Int, y_ = (([(a0 / 16777216) % 256, (a0 / 65536) % 256, (a0 / 256) % 256, (a0) % 256] : List Int)) := ⟨_, rfl⟩
 replace H : (some (strOfNums y108)) = some r := by first | (rw [hy108]; with_reducible exact H) | (have H2_ := (Option.bind_some _ _).symm.trans H; rw [hy108]; with_reducible exact H2_) | (have H2_ := (Option.bind_some _ _).symm.trans H; with_reducible exact H2_) | with_reducible exact H | (rw [hy108]; exact H) | exact H
 have Ny108 := Aside0.mk hy108
 clear hy108
 obtain rfl := Option.some.inj H
 go_enter Try.func127, Try.ntmps127
 go_wp2_with (first | ((with_reducible refine gate_dst (N := 14) rfl ?_); refine Kd.R_lit (Kd.int .u8) _ 5 ?hg (N := 14) ?hd (xs := ([(a0 / 16777216) % 256, (a0 / 65536) % 256, (a0 / 256) % 256, (a0) % 256] : List Int)) (inner := [.int .u8 ((a0 / 16777216) % 256), .int .u8 ((a0 / 65536) % 256), .int .u8 ((a0 / 256) % 256), .int .u8 ((a0) % 256)]) (ok := fun _ => True) (okp := fun _ => True) ?hr ?hp (fun _ hk => hk) trivial (Below.refl _ _) (Nat.le_refl _) (by simp) ?_; (case hd => rfl); (case hg => rfl); (case hr => first | (go_simp; done) | (go_simp; rfl)); (case hp => exact (Reps.one (show Kd.M (Kd.int .u8) _ _ _ ((a0 / 16777216) % 256) [.int .u8 ((a0 / 16777216) % 256)] from rfl) (Reps.one (show Kd.M (Kd.int .u8) _ _ _ ((a0 / 65536) % 256) [.int .u8 ((a0 / 65536) % 256)] from rfl) (Reps.one (show Kd.M (Kd.int .u8) _ _ _ ((a0 / 256) % 256) [.int .u8 ((a0 / 256) % 256)] from rfl) (Reps.one (show Kd.M (Kd.int .u8) _ _ _ ((a0) % 256) [.int .u8 ((a0) % 256)] from rfl) (Reps.none _ _)))))); intro v109 w2 ho3 hb hg_ hnew_; clear hg_ hnew_; (first | rw [← Ny108.out] at ho3 | (simp only [Int.reduceToNat] at ho3; rw [← Ny108.out] at ho3)); have n0_ := Aside0.mk (Kd.R_lower ho3 (below_size (by repeat (first | (with_reducible first | exact HB.out | apply below_alloc | apply pw_below_drewN | apply below_drew1) | exact HB.out)))); have n1_ := Aside0.mk (below_step (by repeat (first | (with_reducible first | exact HB.out | apply below_alloc | apply pw_below_drewN | apply below_drew1) | exact HB.out)) hb); clear HB; have HO110 := n0_; have HB := n1_; clear n0_ n1_; clear hb ho3; have hcv4 := own_string (P := Try.prog) Try.underlying55 Try.underlying5 Try.underlying9 (Kd.own_of_R HO110.out)))
 go_ret
 exact ⟨by first | rfl | (simp [errW_none, errW_some] <;> rfl) | (simp [*, errW_none, errW_some] <;> rfl), by repeat (first | (with_reducible first | exact HB.out | apply below_alloc | apply pw_below_drewN | apply below_drew1) | exact HB.out)⟩
mutual
def spec_SumMore.l0 : Nat → Int → ByteArray → Int → Option (Int)
 | 0, _, _, _ => none
 | k + 1, x0, x1, x5 => if x5 < (x1.size : Int) then (if 0 ≤ x5 then (spec_SumMore.l1 k (Go.bits .xor .u32 x0 ((bt x1 x5) % 4294967296)) x1 x5 0) else (none)) else (some x0)
def spec_SumMore.l1 : Nat → Int → ByteArray → Int → Int → Option (Int)
 | 0, _, _, _, _ => none
 | k + 1, x0, x1, x5, x6 => if x6 < 8 then (if (Int.tmod x0 2) = 1 then (spec_SumMore.l1 k (Go.bits .xor .u32 ((Int.tdiv x0 2) % 4294967296) 3558460437) x1 x5 (wrap64 (x6 + 1))) else (spec_SumMore.l1 k ((Int.tdiv x0 2) % 4294967296) x1 x5 (wrap64 (x6 + 1)))) else (spec_SumMore.l0 k x0 x1 (wrap64 (x5 + 1)))
end
def spec_SumMore.f (k : Nat) (a0 : Int) (a1 : ByteArray) : Option (Int) := spec_SumMore.l0 k a0 a1 0
theorem spec_SumMore.mono_l : ∀ k, (∀ y0 y1 y2, LeO (spec_SumMore.l0 k y0 y1 y2) (spec_SumMore.l0 (k + 1) y0 y1 y2)) ∧ (∀ y0 y1 y2 y3, LeO (spec_SumMore.l1 k y0 y1 y2 y3) (spec_SumMore.l1 (k + 1) y0 y1 y2 y3))
 | 0 => ⟨fun _ _ _ r h => by simp [spec_SumMore.l0] at h, fun _ _ _ _ r h => by simp [spec_SumMore.l1] at h⟩
 | k + 1 => by
  obtain ⟨ih0, ih1⟩ := spec_SumMore.mono_l k
  refine ⟨?_, ?_⟩
  ·intro y0 y1 y2
   unfold spec_SumMore.l0
   repeat' first
   | (with_reducible exact ih0 _ _ _)
   | (with_reducible exact ih1 _ _ _ _)
   | (with_reducible exact LeO.refl _)
   | (with_reducible exact LeO.none _)
   | (with_reducible refine LeO.ite ?_ ?_)
   | (with_reducible refine LeO.bind ?_ (fun _ => ?_))
   | exact ih0 _ _ _
   | exact ih1 _ _ _ _
  ·intro y0 y1 y2 y3
   unfold spec_SumMore.l1
   repeat' first
   | (with_reducible exact ih0 _ _ _)
   | (with_reducible exact ih1 _ _ _ _)
   | (with_reducible exact LeO.refl _)
   | (with_reducible exact LeO.none _)
   | (with_reducible refine LeO.ite ?_ ?_)
   | (with_reducible refine LeO.bind ?_ (fun _ => ?_))
   | exact ih0 _ _ _
   | exact ih1 _ _ _ _
theorem spec_SumMore.mono : ∀ a0 a1 k, LeO (spec_SumMore.f k a0 a1) (spec_SumMore.f (k + 1) a0 a1) := by
 intro a0 a1 k
 obtain ⟨ih0, ih1⟩ := spec_SumMore.mono_l k
 unfold spec_SumMore.f
 repeat' first
   | (with_reducible exact ih0 _ _ _)
   | (with_reducible exact ih1 _ _ _ _)
   | (with_reducible exact LeO.refl _)
   | (with_reducible exact LeO.none _)
   | (with_reducible refine LeO.ite ?_ ?_)
   | (with_reducible refine LeO.bind ?_ (fun _ => ?_))
   | exact ih0 _ _ _
   | exact ih1 _ _ _ _
theorem spec_SumMore.calls (k : Nat) (a0 : Int) (a1 : ByteArray) (r : Int) (w : World) (h : spec_SumMore.f k a0 a1 = some r) :
  Calls Try.prog 154 #[.int .u32 a0, .string a1] w fun e w' => e = .returned (.int .u32 r) ∧ Drawn0 w w' := by
 have H : (spec_SumMore.l0 k a0 a1 0) = some r := h
 clear h
 have H' := Aside0.mk H
 clear H
 go_enter Try.func154, Try.ntmps154
 go_wp2
 go_loopg [0, 5] k (fun kq v0 v5 w' => ∃ (x0_1 : Int) (x5_1 : Int), v0 = .int .u32 x0_1 ∧ v5 = .int .i64 x5_1 ∧ Aside0 (spec_SumMore.l0 kq x0_1 a1 x5_1 = some r) ∧ Aside0 (kq ≤ k) ∧ Drawn0 w w')
 case atStart => exact ⟨(a0), (0), (by first | rfl | (simp; done) | (simp [*]; done)), (by first | rfl | (simp; done) | (simp [*]; done)), H', ⟨Nat.le_refl _⟩, by repeat (first | exact Drawn0.refl _ | apply Drawn0.step)⟩
 case round =>
  clear H'
  obtain ⟨x0_1, x5_1, rfl, rfl, HA, HK1, ⟨m1, rfl⟩⟩ := hrel
  cases gk with
  | zero => exact absurd HA.out (by simp [spec_SumMore.l0])
  | succ k1 =>
   have H := HA.out
   clear HA
   simp only [spec_SumMore.l0] at H
   by_cases c3 : x5_1 < (a1.size : Int)
   ·rw [if_pos c3] at H
    have c3b0 : decide (x5_1 < (a1.size : Int)) = true := decide_eq_true c3
    clear c3
    by_cases c4 : 0 ≤ x5_1
    ·rw [if_pos c4] at H
     have c4b0 : decide (0 ≤ x5_1) = true := decide_eq_true c4
     clear c4
     have H' := Aside0.mk H
     clear H
     have p5 : 0 ≤ (x5_1 : Int) := of_decide_eq_true (by with_reducible assumption)
     have q5 : x5_1 < (a1.size : Int) := of_decide_eq_true (by with_reducible assumption)
     have hx5 := bt_at a1 x5_1
     replace p5 := eq_true p5
     replace q5 := eq_true q5
     go_wp2
     go_loopg [0, 6] k1 (fun kq v0 v6 w' => ∃ (x0_2 : Int) (x6_2 : Int), v0 = .int .u32 x0_2 ∧ v6 = .int .i64 x6_2 ∧ Aside0 (spec_SumMore.l1 kq x0_2 a1 x5_1 x6_2 = some r) ∧ Aside0 (kq ≤ k1) ∧ Drawn0 w w')
     case atStart => exact ⟨(Go.bits .xor .u32 x0_1 ((bt a1 x5_1) % 4294967296)), (0), (by first | rfl | (simp; done) | (simp [*]; done)), (by first | rfl | (simp; done) | (simp [*]; done)), H', ⟨Nat.le_refl _⟩, by repeat (first | exact Drawn0.refl _ | apply Drawn0.step)⟩
     case round =>
      clear H'
      try clear c3
      try clear c3b0
      try clear c4
      try clear c4b0
      try clear p5
      try clear q5
      try clear hx5
      try clear p5
      try clear q5
      obtain ⟨x0_2, x6_2, rfl, rfl, HA, HK2, ⟨m2, rfl⟩⟩ := hrel
      cases gk with
      | zero => exact absurd HA.out (by simp [spec_SumMore.l1])
      | succ k2 =>
       have H := HA.out
       clear HA
       simp only [spec_SumMore.l1] at H
       by_cases c6 : x6_2 < 8
       ·rw [if_pos c6] at H
        have c6b0 : decide (x6_2 < 8) = true := decide_eq_true c6
        clear c6
        by_cases c7 : (Int.tmod x0_2 2) = 1
        ·rw [if_pos c7] at H
         have c7b0 : ((Int.tmod x0_2 2) == 1) = true := beq_iff_eq.mpr c7
         have c7b1 : ((Int.tmod x0_2 2) != 1) = false := bne_eq_false_iff_eq.mpr c7
         clear c7
         have H' := Aside0.mk H
         clear H
         go_wp2
         go_roundg k2
         case measure => have := HK1.out; have := HK2.out; omega
         case rel => exact ⟨(Go.bits .xor .u32 ((Int.tdiv x0_2 2) % 4294967296) 3558460437), (wrap64 (x6_2 + 1)), (by first | rfl | (simp; done) | (simp [*]; done)), (by first | rfl | (simp; done) | (simp [*]; done)), H', ⟨by have := HK1.out; have := HK2.out; omega⟩, by repeat (first | exact Drawn0.refl _ | apply Drawn0.step)⟩
        ·rw [if_neg c7] at H
         have c7b0 : ((Int.tmod x0_2 2) == 1) = false := beq_eq_false_iff_ne.mpr c7
         have c7b1 : ((Int.tmod x0_2 2) != 1) = true := bne_iff_ne.mpr c7
         have H' := Aside0.mk H
         clear H
         go_wp2
         go_roundg k2
         case measure => have := HK1.out; have := HK2.out; omega
         case rel => exact ⟨((Int.tdiv x0_2 2) % 4294967296), (wrap64 (x6_2 + 1)), (by first | rfl | (simp; done) | (simp [*]; done)), (by first | rfl | (simp; done) | (simp [*]; done)), H', ⟨by have := HK1.out; have := HK2.out; omega⟩, by repeat (first | exact Drawn0.refl _ | apply Drawn0.step)⟩
       ·rw [if_neg c6] at H
        have c6b0 : decide (x6_2 < 8) = false := decide_eq_false c6
        clear c6
        have H' := Aside0.mk H
        clear H
        go_wp2
        go_roundg k2
        case measure => have := HK1.out; have := HK2.out; omega
        case rel => exact ⟨(x0_2), (wrap64 (x5_1 + 1)), (by first | rfl | (simp; done) | (simp [*]; done)), (by first | rfl | (simp; done) | (simp [*]; done)), H', ⟨by have := HK1.out; have := HK2.out; omega⟩, by repeat (first | exact Drawn0.refl _ | apply Drawn0.step)⟩
    ·rw [if_neg c4] at H
     exact absurd H (by simp)
   ·rw [if_neg c3] at H
    have c3b0 : decide (x5_1 < (a1.size : Int)) = false := decide_eq_false c3
    clear c3
    obtain rfl := Option.some.inj H
    go_wp2
    go_ret
    exact ⟨by first | rfl | (simp; done) | (simp [*]; done), by repeat (first | exact Drawn0.refl _ | apply Drawn0.step)⟩
def spec_SumOf.f (k : Nat) (a0 : ByteArray) : Option (Int) := (spec_SumMore.f k 4294967295 a0).bind fun t111 => (some t111)
theorem spec_SumOf.mono : ∀ a0 k, LeO (spec_SumOf.f k a0) (spec_SumOf.f (k + 1) a0) := by
 intro a0 k
 unfold spec_SumOf.f
 repeat' first
   | (with_reducible exact spec_SumMore.mono _ _ _)
   | (with_reducible exact LeO.refl _)
   | (with_reducible exact LeO.none _)
   | (with_reducible refine LeO.ite ?_ ?_)
   | (with_reducible refine LeO.bind ?_ (fun _ => ?_))
   | exact spec_SumMore.mono _ _ _
theorem spec_SumOf.calls (k : Nat) (a0 : ByteArray) (r : Int) (w : World) (h : spec_SumOf.f k a0 = some r) :
  Calls Try.prog 128 #[.string a0] w fun e w' => e = .returned (.int .u32 r) ∧ Drawn0 w w' := by
 have H : ((spec_SumMore.f k 4294967295 a0).bind fun t111 => (some t111)) = some r := h
 clear h
 replace H := Option.bind_eq_some_iff.mp H
 obtain ⟨t111, A20, H⟩ := H
 replace H : (some t111) = some r := H
 have A2 := Aside0.mk A20
 clear A20
 obtain rfl := Option.some.inj H
 go_enter Try.func128, Try.ntmps128
 go_wp2_with (first | ((with_reducible refine gate_callee (f := 154) rfl ?_); refine goesL_ (some 4) rfl rfl Try.func154 (by kernel_rfl) rfl #[.int .u32 4294967295, .string a0] rfl (by (try simp only [List.map_toArray, List.map_cons, List.map_nil]); first | done | rfl | (simp only [List.length_drop, List.length_take]; rfl)) ?_; (with_reducible refine (spec_SumMore.calls k 4294967295 a0 t111 _ A2.out).mono ?_); rintro e w' ⟨rfl, ⟨nd, rfl⟩⟩; refine ⟨_, rfl, ?_⟩))
 go_ret
 exact ⟨by first | rfl | (simp; done) | (simp [*]; done), by repeat (first | exact Drawn0.refl _ | apply Drawn0.step)⟩
def spec_Unsealed.f (k : Nat) (a0 : ByteArray) : Option (ByteArray × Bool) := if (wrap64 ((a0.size : Int) - 4)) < 0 then (some ((⟨#[]⟩ : ByteArray), false)) else (if (wrap64 ((a0.size : Int) - 4)) > 20000 then (some ((⟨#[]⟩ : ByteArray), false)) else (if 0 ≤ (wrap64 ((a0.size : Int) - 4)) then (if (wrap64 ((a0.size : Int) - 4)) ≤ (a0.size : Int) then ((spec_SumOf.f k (a0.extract 0 ((wrap64 ((a0.size : Int) - 4)) : Int).toNat)).bind fun t112 => ((spec_l02Four.f t112).bind fun t113 => (if (a0.extract ((wrap64 ((a0.size : Int) - 4)) : Int).toNat a0.size).toList = t113.toList then (some (a0.extract 0 ((wrap64 ((a0.size : Int) - 4)) : Int).toNat, true)) else (some ((⟨#[]⟩ : ByteArray), false))))) else (none)) else (none)))
theorem spec_Unsealed.mono : ∀ a0 k, LeO (spec_Unsealed.f k a0) (spec_Unsealed.f (k + 1) a0) := by
 intro a0 k
 unfold spec_Unsealed.f
 repeat' first
   | (with_reducible exact spec_SumOf.mono _ _)
   | (with_reducible exact LeO.refl _)
   | (with_reducible exact LeO.none _)
   | (with_reducible refine LeO.ite ?_ ?_)
   | (with_reducible refine LeO.bind ?_ (fun _ => ?_))
   | exact spec_SumOf.mono _ _
def spec_Unsealed.T2 : Bool × List (List Nat × List Nat) := (true, [([], []), ([0], [0]), ([1], [1]), ([2], [2]), ([3, 2], [2, 3]), ([2, 4], [2, 4]), ([5, 2], [5]), ([6], [6]), ([6], [6]), ([7, 8, 6], [6, 7, 8]), ([6], [6]), ([6], [6]), ([10, 11, 6], [6, 10, 11]), ([12, 6, 6], [6, 12]), ([13, 13, 6], [6, 13]), ([9, 14, 6], [6, 9, 14]), ([6, 15], [6, 15])])
def spec_Unsealed.B2 : List Nat := [0, 1, 3, 7, 15, 31, 63, 127, 127, 511, 127, 127, 3199, 7295, 15487, 32767, 65535]
theorem spec_Unsealed.tab2 : rtab .any (opsOf Try.f80 2) = spec_Unsealed.T2 := by kernel_rfl
theorem spec_Unsealed.bits2 : waitsOk spec_Unsealed.T2.2 spec_Unsealed.B2 = true := by kernel_rfl
theorem spec_Unsealed.calls (k : Nat) (a0 : ByteArray) (r1 : ByteArray) (r2 : Bool) (w : World) (h : spec_Unsealed.f k a0 = some (r1, r2)) :
  Calls Try.prog 80 #[.string a0] w fun e w' => e = .returned (.tuple #[.string r1, .bool r2]) ∧ Below w.heap.size w w' := by
 have HB := Aside0.mk (Below.refl w.heap.size w)
 have H : (if (wrap64 ((a0.size : Int) - 4)) < 0 then (some ((⟨#[]⟩ : ByteArray), false)) else (if (wrap64 ((a0.size : Int) - 4)) > 20000 then (some ((⟨#[]⟩ : ByteArray), false)) else (if 0 ≤ (wrap64 ((a0.size : Int) - 4)) then (if (wrap64 ((a0.size : Int) - 4)) ≤ (a0.size : Int) then ((spec_SumOf.f k (a0.extract 0 ((wrap64 ((a0.size : Int) - 4)) : Int).toNat)).bind fun t112 => ((spec_l02Four.f t112).bind fun t113 => (if (a0.extract ((wrap64 ((a0.size : Int) - 4)) : Int).toNat a0.size).toList = t113.toList then (some (a0.extract 0 ((wrap64 ((a0.size : Int) - 4)) : Int).toNat, true)) else (some ((⟨#[]⟩ : ByteArray), false))))) else (none)) else (none)))) = some (r1, r2) := h
 clear h
 by_cases c2 : (wrap64 ((a0.size : Int) - 4)) < 0
 ·rw [if_pos c2] at H
  have c2b0 : decide ((wrap64 ((a0.size : Int) - 4)) < 0) = true := decide_eq_true c2
  clear c2
  simp only [Option.some.injEq, Prod.mk.injEq] at H
  obtain ⟨rfl, rfl⟩ := H
  go_enter Try.func80, Try.ntmps80
  try go_wp2
  have n0_ := Aside0.mk (below_drew1 HB.out)
  clear HB
  have HB := n0_
  clear n0_
  refine start_ (n := 17) (S := fun w' => True) (ds := []) #[false, false, false, false, false, false, false, false, false, false, false, false, false, false, false, false, false] (by kernel_rfl) rfl rfl trivial (fun hHeld => ?_); refine with_tabW spec_Unsealed.tab2 spec_Unsealed.bits2 (fun HT_ HW_ => ?_)
  generalize w.drew = w3 at HB hHeld ⊢
  refine pure_ (i := 0) (N := some 8) (v := ?_) (a' := ?_) #[true, false, false, false, false, false, false, false, false, false, false, false, false, false, false, false, false] rfl rfl (any_of HT_.out (by kernel_rfl)) (fun _ _ _ h => h) (Or.inl ⟨by rfl, ?_⟩) ?_ ?_
  rotate_left
  ·intro w'
   go_simp
   with_reducible rfl
  rotate_left
  ·simp only [Act.put, List.setIfInBounds_toArray, List.set_cons_zero, List.set_cons_succ, i64_w, i32_w]
   rfl
  refine pure_ (i := 1) (N := some 9) (v := ?_) (a' := ?_) #[true, true, false, false, false, false, false, false, false, false, false, false, false, false, false, false, false] rfl rfl (any_of HT_.out (by kernel_rfl)) (fun _ _ _ h => h) (Or.inl ⟨by rfl, ?_⟩) ?_ ?_
  rotate_left
  ·intro w'
   go_simp
   with_reducible rfl
  rotate_left
  ·simp only [Act.put, List.setIfInBounds_toArray, List.set_cons_zero, List.set_cons_succ, i64_w, i32_w]
   rfl
  refine pure_ (i := 2) (N := some 10) (v := ?_) (a' := ?_) #[true, true, true, false, false, false, false, false, false, false, false, false, false, false, false, false, false] rfl rfl (any_of HT_.out (by kernel_rfl)) (fun _ _ _ h => h) (Or.inl ⟨by rfl, ?_⟩) ?_ ?_
  rotate_left
  ·intro w'
   go_simp
   with_reducible rfl
  rotate_left
  ·simp only [Act.put, List.setIfInBounds_toArray, List.set_cons_zero, List.set_cons_succ, i64_w, i32_w]
   rfl
  refine pure_ (i := 3) (N := some 11) (v := undef) (a' := ?_) #[true, true, true, true, false, false, false, false, false, false, false, false, false, false, false, false, false] rfl rfl (any_of HT_.out (by kernel_rfl)) (fun _ _ _ h => h) (Or.inr ⟨by rfl, rfl⟩) ?_ ?_
  rotate_left
  ·simp only [Act.put, List.setIfInBounds_toArray, List.set_cons_zero, List.set_cons_succ, i64_w, i32_w]
   rfl
  refine pure_ (i := 4) (N := some 12) (v := undef) (a' := ?_) #[true, true, true, true, true, false, false, false, false, false, false, false, false, false, false, false, false] rfl rfl (any_of HT_.out (by kernel_rfl)) (fun _ _ _ h => h) (Or.inr ⟨by rfl, rfl⟩) ?_ ?_
  rotate_left
  ·simp only [Act.put, List.setIfInBounds_toArray, List.set_cons_zero, List.set_cons_succ, i64_w, i32_w]
   rfl
  refine pure_ (i := 5) (N := some 13) (v := ?_) (a' := ?_) #[true, true, true, true, true, true, false, false, false, false, false, false, false, false, false, false, false] rfl rfl (any_of HT_.out (by kernel_rfl)) (fun _ _ _ h => h) (Or.inl ⟨by rfl, ?_⟩) ?_ ?_
  rotate_left
  ·intro w'
   go_simp
   with_reducible rfl
  rotate_left
  ·simp only [Act.put, List.setIfInBounds_toArray, List.set_cons_zero, List.set_cons_succ, i64_w, i32_w]
   rfl
  refine pure_ (i := 6) (N := some 14) (v := ?_) (a' := ?_) #[true, true, true, true, true, true, true, false, false, false, false, false, false, false, false, false, false] rfl rfl (any_of HT_.out (by kernel_rfl)) (fun _ _ _ h => h) (Or.inl ⟨by rfl, ?_⟩) ?_ ?_
  rotate_left
  ·intro w'
   go_simp
   with_reducible rfl
  rotate_left
  ·simp only [Act.put, List.setIfInBounds_toArray, List.set_cons_zero, List.set_cons_succ, i64_w, i32_w]
   rfl
  refine pure_ (i := 7) (N := some 15) (v := undef) (a' := ?_) #[true, true, true, true, true, true, true, true, false, false, false, false, false, false, false, false, false] rfl rfl (any_of HT_.out (by kernel_rfl)) (fun _ _ _ h => h) (Or.inr ⟨by rfl, rfl⟩) ?_ ?_
  rotate_left
  ·simp only [Act.put, List.setIfInBounds_toArray, List.set_cons_zero, List.set_cons_succ, i64_w, i32_w]
   rfl
  refine pure_ (i := 8) (N := some 16) (v := undef) (a' := ?_) #[true, true, true, true, true, true, true, true, true, false, false, false, false, false, false, false, false] rfl rfl (any_of HT_.out (by kernel_rfl)) (fun _ _ _ h => h) (Or.inr ⟨by rfl, rfl⟩) ?_ ?_
  rotate_left
  ·simp only [Act.put, List.setIfInBounds_toArray, List.set_cons_zero, List.set_cons_succ, i64_w, i32_w]
   rfl
  refine pure_ (i := 9) (N := some 17) (v := undef) (a' := ?_) #[true, true, true, true, true, true, true, true, true, true, false, false, false, false, false, false, false] rfl rfl (any_of HT_.out (by kernel_rfl)) (fun _ _ _ h => h) (Or.inr ⟨by rfl, rfl⟩) ?_ ?_
  rotate_left
  ·simp only [Act.put, List.setIfInBounds_toArray, List.set_cons_zero, List.set_cons_succ, i64_w, i32_w]
   rfl
  refine pure_ (i := 10) (N := some 18) (v := undef) (a' := ?_) #[true, true, true, true, true, true, true, true, true, true, true, false, false, false, false, false, false] rfl rfl (any_of HT_.out (by kernel_rfl)) (fun _ _ _ h => h) (Or.inr ⟨by rfl, rfl⟩) ?_ ?_
  rotate_left
  ·simp only [Act.put, List.setIfInBounds_toArray, List.set_cons_zero, List.set_cons_succ, i64_w, i32_w]
   rfl
  refine pure_ (i := 11) (N := some 19) (v := undef) (a' := ?_) #[true, true, true, true, true, true, true, true, true, true, true, true, false, false, false, false, false] rfl rfl (any_of HT_.out (by kernel_rfl)) (fun _ _ _ h => h) (Or.inr ⟨by rfl, rfl⟩) ?_ ?_
  rotate_left
  ·simp only [Act.put, List.setIfInBounds_toArray, List.set_cons_zero, List.set_cons_succ, i64_w, i32_w]
   rfl
  refine pure_ (i := 12) (N := some 20) (v := undef) (a' := ?_) #[true, true, true, true, true, true, true, true, true, true, true, true, true, false, false, false, false] rfl rfl (any_of HT_.out (by kernel_rfl)) (fun _ _ _ h => h) (Or.inr ⟨by rfl, rfl⟩) ?_ ?_
  rotate_left
  ·simp only [Act.put, List.setIfInBounds_toArray, List.set_cons_zero, List.set_cons_succ, i64_w, i32_w]
   rfl
  refine pure_ (i := 13) (N := some 21) (v := undef) (a' := ?_) #[true, true, true, true, true, true, true, true, true, true, true, true, true, true, false, false, false] rfl rfl (any_of HT_.out (by kernel_rfl)) (fun _ _ _ h => h) (Or.inr ⟨by rfl, rfl⟩) ?_ ?_
  rotate_left
  ·simp only [Act.put, List.setIfInBounds_toArray, List.set_cons_zero, List.set_cons_succ, i64_w, i32_w]
   rfl
  refine pure_ (i := 14) (N := some 22) (v := undef) (a' := ?_) #[true, true, true, true, true, true, true, true, true, true, true, true, true, true, true, false, false] rfl rfl (any_of HT_.out (by kernel_rfl)) (fun _ _ _ h => h) (Or.inr ⟨by rfl, rfl⟩) ?_ ?_
  rotate_left
  ·simp only [Act.put, List.setIfInBounds_toArray, List.set_cons_zero, List.set_cons_succ, i64_w, i32_w]
   rfl
  refine pure_ (i := 15) (N := some 23) (v := undef) (a' := ?_) #[true, true, true, true, true, true, true, true, true, true, true, true, true, true, true, true, false] rfl rfl (any_of HT_.out (by kernel_rfl)) (fun _ _ _ h => h) (Or.inr ⟨by rfl, rfl⟩) ?_ ?_
  rotate_left
  ·simp only [Act.put, List.setIfInBounds_toArray, List.set_cons_zero, List.set_cons_succ, i64_w, i32_w]
   rfl
  refine pure_ (i := 16) (N := some 24) (v := ?_) (a' := ?_) #[true, true, true, true, true, true, true, true, true, true, true, true, true, true, true, true, true] rfl rfl (any_of HT_.out (by kernel_rfl)) (fun _ _ _ h => h) (Or.inl ⟨by rfl, ?_⟩) ?_ ?_
  rotate_left
  ·intro w'
   go_simp
   with_reducible rfl
  rotate_left
  ·simp only [Act.put, List.setIfInBounds_toArray, List.set_cons_zero, List.set_cons_succ, i64_w, i32_w]
   rfl
  refine done_ (done_of HT_.out (by kernel_rfl)) ?_
  try go_wp2
  go_ret2
  exact ⟨by first | rfl | (simp [errW_none, errW_some] <;> rfl) | (simp [*, errW_none, errW_some] <;> rfl), by repeat (first | (with_reducible first | exact HB.out | apply below_alloc | apply pw_below_drewN | apply below_drew1) | exact HB.out)⟩
 ·rw [if_neg c2] at H
  have c2b0 : decide ((wrap64 ((a0.size : Int) - 4)) < 0) = false := decide_eq_false c2
  clear c2
  by_cases c4 : (wrap64 ((a0.size : Int) - 4)) > 20000
  ·rw [if_pos c4] at H
   have c4b0 : decide (20000 < (wrap64 ((a0.size : Int) - 4))) = true := decide_eq_true c4
   clear c4
   simp only [Option.some.injEq, Prod.mk.injEq] at H
   obtain ⟨rfl, rfl⟩ := H
   go_enter Try.func80, Try.ntmps80
   try go_wp2
   have n0_ := Aside0.mk (below_drew1 HB.out)
   clear HB
   have HB := n0_
   clear n0_
   refine start_ (n := 17) (S := fun w' => True) (ds := []) #[false, false, false, false, false, false, false, false, false, false, false, false, false, false, false, false, false] (by kernel_rfl) rfl rfl trivial (fun hHeld => ?_); refine with_tabW spec_Unsealed.tab2 spec_Unsealed.bits2 (fun HT_ HW_ => ?_)
   generalize w.drew = w5 at HB hHeld ⊢
   refine pure_ (i := 0) (N := some 8) (v := ?_) (a' := ?_) #[true, false, false, false, false, false, false, false, false, false, false, false, false, false, false, false, false] rfl rfl (any_of HT_.out (by kernel_rfl)) (fun _ _ _ h => h) (Or.inl ⟨by rfl, ?_⟩) ?_ ?_
   rotate_left
   ·intro w'
    go_simp
    with_reducible rfl
   rotate_left
   ·simp only [Act.put, List.setIfInBounds_toArray, List.set_cons_zero, List.set_cons_succ, i64_w, i32_w]
    rfl
   refine pure_ (i := 1) (N := some 9) (v := ?_) (a' := ?_) #[true, true, false, false, false, false, false, false, false, false, false, false, false, false, false, false, false] rfl rfl (any_of HT_.out (by kernel_rfl)) (fun _ _ _ h => h) (Or.inl ⟨by rfl, ?_⟩) ?_ ?_
   rotate_left
   ·intro w'
    go_simp
    with_reducible rfl
   rotate_left
   ·simp only [Act.put, List.setIfInBounds_toArray, List.set_cons_zero, List.set_cons_succ, i64_w, i32_w]
    rfl
   refine pure_ (i := 2) (N := some 10) (v := ?_) (a' := ?_) #[true, true, true, false, false, false, false, false, false, false, false, false, false, false, false, false, false] rfl rfl (any_of HT_.out (by kernel_rfl)) (fun _ _ _ h => h) (Or.inl ⟨by rfl, ?_⟩) ?_ ?_
   rotate_left
   ·intro w'
    go_simp
    with_reducible rfl
   rotate_left
   ·simp only [Act.put, List.setIfInBounds_toArray, List.set_cons_zero, List.set_cons_succ, i64_w, i32_w]
    rfl
   refine pure_ (i := 3) (N := some 11) (v := ?_) (a' := ?_) #[true, true, true, true, false, false, false, false, false, false, false, false, false, false, false, false, false] rfl rfl (any_of HT_.out (by kernel_rfl)) (fun _ _ _ h => h) (Or.inl ⟨by rfl, ?_⟩) ?_ ?_
   rotate_left
   ·intro w'
    go_simp
    with_reducible rfl
   rotate_left
   ·simp only [Act.put, List.setIfInBounds_toArray, List.set_cons_zero, List.set_cons_succ, i64_w, i32_w]
    rfl
   refine pure_ (i := 4) (N := some 12) (v := ?_) (a' := ?_) #[true, true, true, true, true, false, false, false, false, false, false, false, false, false, false, false, false] rfl rfl (any_of HT_.out (by kernel_rfl)) (fun _ _ _ h => h) (Or.inl ⟨by rfl, ?_⟩) ?_ ?_
   rotate_left
   ·intro w'
    go_simp
    with_reducible rfl
   rotate_left
   ·simp only [Act.put, List.setIfInBounds_toArray, List.set_cons_zero, List.set_cons_succ, i64_w, i32_w]
    rfl
   refine pure_ (i := 5) (N := some 13) (v := ?_) (a' := ?_) #[true, true, true, true, true, true, false, false, false, false, false, false, false, false, false, false, false] rfl rfl (any_of HT_.out (by kernel_rfl)) (fun _ _ _ h => h) (Or.inl ⟨by rfl, ?_⟩) ?_ ?_
   rotate_left
   ·intro w'
    go_simp
    with_reducible rfl
   rotate_left
   ·simp only [Act.put, List.setIfInBounds_toArray, List.set_cons_zero, List.set_cons_succ, i64_w, i32_w]
    rfl
   refine pure_ (i := 6) (N := some 14) (v := ?_) (a' := ?_) #[true, true, true, true, true, true, true, false, false, false, false, false, false, false, false, false, false] rfl rfl (any_of HT_.out (by kernel_rfl)) (fun _ _ _ h => h) (Or.inl ⟨by rfl, ?_⟩) ?_ ?_
   rotate_left
   ·intro w'
    go_simp
    with_reducible rfl
   rotate_left
   ·simp only [Act.put, List.setIfInBounds_toArray, List.set_cons_zero, List.set_cons_succ, i64_w, i32_w]
    rfl
   refine pure_ (i := 7) (N := some 15) (v := undef) (a' := ?_) #[true, true, true, true, true, true, true, true, false, false, false, false, false, false, false, false, false] rfl rfl (any_of HT_.out (by kernel_rfl)) (fun _ _ _ h => h) (Or.inr ⟨by rfl, rfl⟩) ?_ ?_
   rotate_left
   ·simp only [Act.put, List.setIfInBounds_toArray, List.set_cons_zero, List.set_cons_succ, i64_w, i32_w]
    rfl
   refine pure_ (i := 8) (N := some 16) (v := undef) (a' := ?_) #[true, true, true, true, true, true, true, true, true, false, false, false, false, false, false, false, false] rfl rfl (any_of HT_.out (by kernel_rfl)) (fun _ _ _ h => h) (Or.inr ⟨by rfl, rfl⟩) ?_ ?_
   rotate_left
   ·simp only [Act.put, List.setIfInBounds_toArray, List.set_cons_zero, List.set_cons_succ, i64_w, i32_w]
    rfl
   refine pure_ (i := 9) (N := some 17) (v := undef) (a' := ?_) #[true, true, true, true, true, true, true, true, true, true, false, false, false, false, false, false, false] rfl rfl (any_of HT_.out (by kernel_rfl)) (fun _ _ _ h => h) (Or.inr ⟨by rfl, rfl⟩) ?_ ?_
   rotate_left
   ·simp only [Act.put, List.setIfInBounds_toArray, List.set_cons_zero, List.set_cons_succ, i64_w, i32_w]
    rfl
   refine pure_ (i := 10) (N := some 18) (v := undef) (a' := ?_) #[true, true, true, true, true, true, true, true, true, true, true, false, false, false, false, false, false] rfl rfl (any_of HT_.out (by kernel_rfl)) (fun _ _ _ h => h) (Or.inr ⟨by rfl, rfl⟩) ?_ ?_
   rotate_left
   ·simp only [Act.put, List.setIfInBounds_toArray, List.set_cons_zero, List.set_cons_succ, i64_w, i32_w]
    rfl
   refine pure_ (i := 11) (N := some 19) (v := undef) (a' := ?_) #[true, true, true, true, true, true, true, true, true, true, true, true, false, false, false, false, false] rfl rfl (any_of HT_.out (by kernel_rfl)) (fun _ _ _ h => h) (Or.inr ⟨by rfl, rfl⟩) ?_ ?_
   rotate_left
   ·simp only [Act.put, List.setIfInBounds_toArray, List.set_cons_zero, List.set_cons_succ, i64_w, i32_w]
    rfl
   refine pure_ (i := 12) (N := some 20) (v := undef) (a' := ?_) #[true, true, true, true, true, true, true, true, true, true, true, true, true, false, false, false, false] rfl rfl (any_of HT_.out (by kernel_rfl)) (fun _ _ _ h => h) (Or.inr ⟨by rfl, rfl⟩) ?_ ?_
   rotate_left
   ·simp only [Act.put, List.setIfInBounds_toArray, List.set_cons_zero, List.set_cons_succ, i64_w, i32_w]
    rfl
   refine pure_ (i := 13) (N := some 21) (v := undef) (a' := ?_) #[true, true, true, true, true, true, true, true, true, true, true, true, true, true, false, false, false] rfl rfl (any_of HT_.out (by kernel_rfl)) (fun _ _ _ h => h) (Or.inr ⟨by rfl, rfl⟩) ?_ ?_
   rotate_left
   ·simp only [Act.put, List.setIfInBounds_toArray, List.set_cons_zero, List.set_cons_succ, i64_w, i32_w]
    rfl
   refine pure_ (i := 14) (N := some 22) (v := undef) (a' := ?_) #[true, true, true, true, true, true, true, true, true, true, true, true, true, true, true, false, false] rfl rfl (any_of HT_.out (by kernel_rfl)) (fun _ _ _ h => h) (Or.inr ⟨by rfl, rfl⟩) ?_ ?_
   rotate_left
   ·simp only [Act.put, List.setIfInBounds_toArray, List.set_cons_zero, List.set_cons_succ, i64_w, i32_w]
    rfl
   refine pure_ (i := 15) (N := some 23) (v := undef) (a' := ?_) #[true, true, true, true, true, true, true, true, true, true, true, true, true, true, true, true, false] rfl rfl (any_of HT_.out (by kernel_rfl)) (fun _ _ _ h => h) (Or.inr ⟨by rfl, rfl⟩) ?_ ?_
   rotate_left
   ·simp only [Act.put, List.setIfInBounds_toArray, List.set_cons_zero, List.set_cons_succ, i64_w, i32_w]
    rfl
   refine pure_ (i := 16) (N := some 24) (v := ?_) (a' := ?_) #[true, true, true, true, true, true, true, true, true, true, true, true, true, true, true, true, true] rfl rfl (any_of HT_.out (by kernel_rfl)) (fun _ _ _ h => h) (Or.inl ⟨by rfl, ?_⟩) ?_ ?_
   rotate_left
   ·intro w'
    go_simp
    with_reducible rfl
   rotate_left
   ·simp only [Act.put, List.setIfInBounds_toArray, List.set_cons_zero, List.set_cons_succ, i64_w, i32_w]
    rfl
   refine done_ (done_of HT_.out (by kernel_rfl)) ?_
   try go_wp2
   go_ret2
   exact ⟨by first | rfl | (simp [errW_none, errW_some] <;> rfl) | (simp [*, errW_none, errW_some] <;> rfl), by repeat (first | (with_reducible first | exact HB.out | apply below_alloc | apply pw_below_drewN | apply below_drew1) | exact HB.out)⟩
  ·rw [if_neg c4] at H
   have c4b0 : decide (20000 < (wrap64 ((a0.size : Int) - 4))) = false := decide_eq_false c4
   clear c4
   obtain ⟨ji6, hji6⟩ : ∃ j_ : Int, (wrap64 ((a0.size : Int) - 4)) = j_ := ⟨_, rfl⟩
   replace H : (if 0 ≤ (ji6) then (if (ji6) ≤ (a0.size : Int) then ((spec_SumOf.f k (a0.extract 0 ((ji6) : Int).toNat)).bind fun t112 => ((spec_l02Four.f t112).bind fun t113 => (if (a0.extract ((ji6) : Int).toNat a0.size).toList = t113.toList then (some (a0.extract 0 ((ji6) : Int).toNat, true)) else (some ((⟨#[]⟩ : ByteArray), false))))) else (none)) else (none)) = some (r1, r2) := by first | (rw [hji6] at H; exact H) | (simp only [hji6] at H ⊢; exact H)
   (try rw [hji6] at c2b0)
   (try rw [hji6] at c4b0)
   have hji6w : (IntKind.i64.wrap ((a0.size : Int) - 4)) = ji6 := (i64_w _).trans hji6
   by_cases c7 : 0 ≤ (ji6)
   ·rw [if_pos c7] at H
    have c7b0 := eq_true c7
    have c7b1 : decide (0 ≤ (ji6)) = true := decide_eq_true c7
    clear c7
    by_cases c8 : (ji6) ≤ (a0.size : Int)
    ·rw [if_pos c8] at H
     have c8b0 := eq_true c8
     have c8b1 : decide ((ji6) ≤ (a0.size : Int)) = true := decide_eq_true c8
     clear c8
     have c9b0 := eq_true (of_decide_eq_true (by with_reducible assumption) : 0 ≤ (ji6))
     have c10b0 := eq_true (of_decide_eq_true (by with_reducible assumption) : (ji6) ≤ (a0.size : Int))
     replace H := Option.bind_eq_some_iff.mp H
     obtain ⟨t112, A110, H⟩ := H
     replace H : ((spec_l02Four.f t112).bind fun t113 => (if (a0.extract ((ji6) : Int).toNat a0.size).toList = t113.toList then (some (a0.extract 0 ((ji6) : Int).toNat, true)) else (some ((⟨#[]⟩ : ByteArray), false)))) = some (r1, r2) := H
     have A11 := Aside0.mk A110
     clear A110
     replace H := Option.bind_eq_some_iff.mp H
     obtain ⟨t113, A120, H⟩ := H
     replace H : (if (a0.extract ((ji6) : Int).toNat a0.size).toList = t113.toList then (some (a0.extract 0 ((ji6) : Int).toNat, true)) else (some ((⟨#[]⟩ : ByteArray), false))) = some (r1, r2) := H
     have A12 := Aside0.mk A120
     clear A120
     by_cases c13 : (a0.extract ((ji6) : Int).toNat a0.size).toList = t113.toList
     ·rw [if_pos c13] at H
      have c13b0 : ((a0.extract ((ji6) : Int).toNat a0.size).toList == t113.toList) = true := beq_iff_eq.mpr c13
      have c13b1 : ((a0.extract ((ji6) : Int).toNat a0.size).toList != t113.toList) = false := bne_eq_false_iff_eq.mpr c13
      clear c13
      have c14b0 := eq_true (of_decide_eq_true (by with_reducible assumption) : 0 ≤ (ji6))
      have c15b0 := eq_true (of_decide_eq_true (by with_reducible assumption) : (ji6) ≤ (a0.size : Int))
      simp only [Option.some.injEq, Prod.mk.injEq] at H
      obtain ⟨rfl, rfl⟩ := H
      go_enter Try.func80, Try.ntmps80
      try go_wp2
      have n0_ := Aside0.mk (below_drew1 HB.out)
      clear HB
      have HB := n0_
      clear n0_
      refine start_ (n := 17) (S := fun w' => True) (ds := []) #[false, false, false, false, false, false, false, false, false, false, false, false, false, false, false, false, false] (by kernel_rfl) rfl rfl trivial (fun hHeld => ?_); refine with_tabW spec_Unsealed.tab2 spec_Unsealed.bits2 (fun HT_ HW_ => ?_)
      generalize w.drew = w16 at HB hHeld ⊢
      refine pure_ (i := 0) (N := some 8) (v := ?_) (a' := ?_) #[true, false, false, false, false, false, false, false, false, false, false, false, false, false, false, false, false] rfl rfl (any_of HT_.out (by kernel_rfl)) (fun _ _ _ h => h) (Or.inl ⟨by rfl, ?_⟩) ?_ ?_
      rotate_left
      ·intro w'
       go_simp
       with_reducible rfl
      rotate_left
      ·simp only [Act.put, List.setIfInBounds_toArray, List.set_cons_zero, List.set_cons_succ, i64_w, i32_w]
       rfl
      refine pure_ (i := 1) (N := some 9) (v := ?_) (a' := ?_) #[true, true, false, false, false, false, false, false, false, false, false, false, false, false, false, false, false] rfl rfl (any_of HT_.out (by kernel_rfl)) (fun _ _ _ h => h) (Or.inl ⟨by rfl, ?_⟩) ?_ ?_
      rotate_left
      ·intro w'
       go_simp
       with_reducible rfl
      rotate_left
      ·simp only [Act.put, List.setIfInBounds_toArray, List.set_cons_zero, List.set_cons_succ, i64_w, i32_w]
       rfl
      refine pure_ (i := 2) (N := some 10) (v := ?_) (a' := ?_) #[true, true, true, false, false, false, false, false, false, false, false, false, false, false, false, false, false] rfl rfl (any_of HT_.out (by kernel_rfl)) (fun _ _ _ h => h) (Or.inl ⟨by rfl, ?_⟩) ?_ ?_
      rotate_left
      ·intro w'
       go_simp
       with_reducible rfl
      rotate_left
      ·simp only [Act.put, List.setIfInBounds_toArray, List.set_cons_zero, List.set_cons_succ, i64_w, i32_w]
       rfl
      refine pure_ (i := 3) (N := some 11) (v := ?_) (a' := ?_) #[true, true, true, true, false, false, false, false, false, false, false, false, false, false, false, false, false] rfl rfl (any_of HT_.out (by kernel_rfl)) (fun _ _ _ h => h) (Or.inl ⟨by rfl, ?_⟩) ?_ ?_
      rotate_left
      ·intro w'
       go_simp
       with_reducible rfl
      rotate_left
      ·simp only [Act.put, List.setIfInBounds_toArray, List.set_cons_zero, List.set_cons_succ, i64_w, i32_w]
       rfl
      refine pure_ (i := 4) (N := some 12) (v := ?_) (a' := ?_) #[true, true, true, true, true, false, false, false, false, false, false, false, false, false, false, false, false] rfl rfl (any_of HT_.out (by kernel_rfl)) (fun _ _ _ h => h) (Or.inl ⟨by rfl, ?_⟩) ?_ ?_
      rotate_left
      ·intro w'
       go_simp
       with_reducible rfl
      rotate_left
      ·simp only [Act.put, List.setIfInBounds_toArray, List.set_cons_zero, List.set_cons_succ, i64_w, i32_w]
       rfl
      refine pure_ (i := 5) (N := some 13) (v := ?_) (a' := ?_) #[true, true, true, true, true, true, false, false, false, false, false, false, false, false, false, false, false] rfl rfl (any_of HT_.out (by kernel_rfl)) (fun _ _ _ h => h) (Or.inl ⟨by rfl, ?_⟩) ?_ ?_
      rotate_left
      ·intro w'
       go_simp
       with_reducible rfl
      rotate_left
      ·simp only [Act.put, List.setIfInBounds_toArray, List.set_cons_zero, List.set_cons_succ, i64_w, i32_w]
       rfl
      refine pure_ (i := 6) (N := some 14) (v := ?_) (a' := ?_) #[true, true, true, true, true, true, true, false, false, false, false, false, false, false, false, false, false] rfl rfl (any_of HT_.out (by kernel_rfl)) (fun _ _ _ h => h) (Or.inl ⟨by rfl, ?_⟩) ?_ ?_
      rotate_left
      ·intro w'
       go_simp
       with_reducible rfl
      rotate_left
      ·simp only [Act.put, List.setIfInBounds_toArray, List.set_cons_zero, List.set_cons_succ, i64_w, i32_w]
       rfl
      refine pure_ (i := 7) (N := some 15) (v := ?_) (a' := ?_) #[true, true, true, true, true, true, true, true, false, false, false, false, false, false, false, false, false] rfl rfl (any_of HT_.out (by kernel_rfl)) (fun _ _ _ h => h) (Or.inl ⟨by rfl, ?_⟩) ?_ ?_
      rotate_left
      ·intro w'
       go_simp
       with_reducible rfl
      rotate_left
      ·simp only [Act.put, List.setIfInBounds_toArray, List.set_cons_zero, List.set_cons_succ, i64_w, i32_w]
       rfl
      refine pure_ (i := 8) (N := some 16) (v := ?_) (a' := ?_) #[true, true, true, true, true, true, true, true, true, false, false, false, false, false, false, false, false] rfl rfl (any_of HT_.out (by kernel_rfl)) (fun _ _ _ h => h) (Or.inl ⟨by rfl, ?_⟩) ?_ ?_
      rotate_left
      ·intro w'
       go_simp
       with_reducible rfl
      rotate_left
      ·simp only [Act.put, List.setIfInBounds_toArray, List.set_cons_zero, List.set_cons_succ, i64_w, i32_w]
       rfl
      refine pure_ (i := 9) (N := some 17) (v := ?_) (a' := ?_) #[true, true, true, true, true, true, true, true, true, true, false, false, false, false, false, false, false] rfl rfl (any_of HT_.out (by kernel_rfl)) (fun _ _ _ h => h) (Or.inl ⟨by rfl, ?_⟩) ?_ ?_
      rotate_left
      ·intro w'
       go_simp
       with_reducible rfl
      rotate_left
      ·simp only [Act.put, List.setIfInBounds_toArray, List.set_cons_zero, List.set_cons_succ, i64_w, i32_w]
       rfl
      refine pure_ (i := 10) (N := some 18) (v := ?_) (a' := ?_) #[true, true, true, true, true, true, true, true, true, true, true, false, false, false, false, false, false] rfl rfl (any_of HT_.out (by kernel_rfl)) (fun _ _ _ h => h) (Or.inl ⟨by rfl, ?_⟩) ?_ ?_
      rotate_left
      ·intro w'
       go_simp
       with_reducible rfl
      rotate_left
      ·simp only [Act.put, List.setIfInBounds_toArray, List.set_cons_zero, List.set_cons_succ, i64_w, i32_w]
       rfl
      refine pure_ (i := 11) (N := some 19) (v := ?_) (a' := ?_) #[true, true, true, true, true, true, true, true, true, true, true, true, false, false, false, false, false] rfl rfl (any_of HT_.out (by kernel_rfl)) (fun _ _ _ h => h) (Or.inl ⟨by rfl, ?_⟩) ?_ ?_
      rotate_left
      ·intro w'
       go_simp
       with_reducible rfl
      rotate_left
      ·simp only [Act.put, List.setIfInBounds_toArray, List.set_cons_zero, List.set_cons_succ, i64_w, i32_w]
       rfl
      refine pure_ (i := 12) (N := some 20) (v := ?_) (a' := ?_) #[true, true, true, true, true, true, true, true, true, true, true, true, true, false, false, false, false] rfl rfl (any_of HT_.out (by kernel_rfl)) (fun _ _ _ h => h) (Or.inl ⟨by rfl, ?_⟩) ?_ ?_
      rotate_left
      ·intro w'
       go_simp
       with_reducible rfl
      rotate_left
      ·simp only [Act.put, List.setIfInBounds_toArray, List.set_cons_zero, List.set_cons_succ, i64_w, i32_w]
       rfl
      refine one_ (i := 13) (N := some 21) #[true, true, true, true, true, true, true, true, true, true, true, true, true, true, false, false, false] rfl rfl (one_of HT_.out (by kernel_rfl)) (by decide) (fun K hK => ?_)
      refine goes_ Try.func128 (by kernel_rfl) rfl #[.string (a0.extract 0 ((ji6) : Int).toNat)] (by rfl) rfl rfl (by (try simp only [List.map_toArray, List.map_cons, List.map_nil]); first | done | (simp only [hji6]; rfl) | rfl | (simp only [List.length_drop, List.length_take]; rfl)) ?_
      with_reducible refine (spec_SumOf.calls k (a0.extract 0 ((ji6) : Int).toNat) t112 _ A11.out).mono ?_
      rintro e w' ⟨rfl, ⟨nd, rfl⟩⟩
      refine ⟨_, rfl, ?_⟩
      refine hK.out _ _ trivial (fun hHeld => ?_)
      clear hK K
      refine norm_ (a' := ?_) ?_ ?_
      rotate_left
      ·show Act.put _ (some 21) _ = _
       simp only [Act.put, List.setIfInBounds_toArray, List.set_cons_zero, List.set_cons_succ, i64_w, i32_w]
       rfl
      refine one_ (i := 14) (N := some 22) #[true, true, true, true, true, true, true, true, true, true, true, true, true, true, true, false, false] rfl rfl (one_of HT_.out (by kernel_rfl)) (by decide) (fun K hK => ?_)
      refine goes_ Try.func127 (by kernel_rfl) rfl #[.int .u32 t112] (by rfl) rfl rfl (by (try simp only [List.map_toArray, List.map_cons, List.map_nil]); first | done | rfl | (simp only [List.length_drop, List.length_take]; rfl)) ?_
      with_reducible refine (spec_l02Four.calls t112 t113 _ A12.out).mono ?_
      rintro e w17 ⟨rfl, hb⟩
      refine ⟨_, rfl, ?_⟩
      have n0_ := Aside0.mk (below_step (by repeat (first | (with_reducible first | exact HB.out | apply below_alloc | apply pw_below_drewN | apply below_drew1) | exact HB.out)) hb)
      clear HB
      have HB := n0_
      clear n0_
      (try clear hb)
      (try clear hb2)
      (try clear hk)
      (try clear hi)
      refine hK.out _ _ trivial (fun hHeld => ?_)
      clear hK K
      refine norm_ (a' := ?_) ?_ ?_
      rotate_left
      ·show Act.put _ (some 22) _ = _
       simp only [Act.put, List.setIfInBounds_toArray, List.set_cons_zero, List.set_cons_succ, i64_w, i32_w]
       rfl
      refine pure_ (i := 15) (N := some 23) (v := ?_) (a' := ?_) #[true, true, true, true, true, true, true, true, true, true, true, true, true, true, true, true, false] rfl rfl (any_of HT_.out (by kernel_rfl)) (fun _ _ _ h => h) (Or.inl ⟨by rfl, ?_⟩) ?_ ?_
      rotate_left
      ·intro w'
       go_simp
       with_reducible rfl
      rotate_left
      ·simp only [Act.put, List.setIfInBounds_toArray, List.set_cons_zero, List.set_cons_succ, i64_w, i32_w]
       rfl
      refine pure_ (i := 16) (N := some 24) (v := ?_) (a' := ?_) #[true, true, true, true, true, true, true, true, true, true, true, true, true, true, true, true, true] rfl rfl (any_of HT_.out (by kernel_rfl)) (fun _ _ _ h => h) (Or.inl ⟨by rfl, ?_⟩) ?_ ?_
      rotate_left
      ·intro w'
       go_simp
       with_reducible rfl
      rotate_left
      ·simp only [Act.put, List.setIfInBounds_toArray, List.set_cons_zero, List.set_cons_succ, i64_w, i32_w]
       rfl
      refine done_ (done_of HT_.out (by kernel_rfl)) ?_
      try go_wp2
      go_ret2
      exact ⟨by first | rfl | (simp [errW_none, errW_some] <;> rfl) | (simp only [← hji6]; first | rfl | (simp [errW_none, errW_some] <;> rfl)) | (simp [*, errW_none, errW_some] <;> rfl), by repeat (first | (with_reducible first | exact HB.out | apply below_alloc | apply pw_below_drewN | apply below_drew1) | exact HB.out)⟩
     ·rw [if_neg c13] at H
      have c13b0 : ((a0.extract ((ji6) : Int).toNat a0.size).toList == t113.toList) = false := beq_eq_false_iff_ne.mpr c13
      have c13b1 : ((a0.extract ((ji6) : Int).toNat a0.size).toList != t113.toList) = true := bne_iff_ne.mpr c13
      simp only [Option.some.injEq, Prod.mk.injEq] at H
      obtain ⟨rfl, rfl⟩ := H
      go_enter Try.func80, Try.ntmps80
      try go_wp2
      have n0_ := Aside0.mk (below_drew1 HB.out)
      clear HB
      have HB := n0_
      clear n0_
      refine start_ (n := 17) (S := fun w' => True) (ds := []) #[false, false, false, false, false, false, false, false, false, false, false, false, false, false, false, false, false] (by kernel_rfl) rfl rfl trivial (fun hHeld => ?_); refine with_tabW spec_Unsealed.tab2 spec_Unsealed.bits2 (fun HT_ HW_ => ?_)
      generalize w.drew = w18 at HB hHeld ⊢
      refine pure_ (i := 0) (N := some 8) (v := ?_) (a' := ?_) #[true, false, false, false, false, false, false, false, false, false, false, false, false, false, false, false, false] rfl rfl (any_of HT_.out (by kernel_rfl)) (fun _ _ _ h => h) (Or.inl ⟨by rfl, ?_⟩) ?_ ?_
      rotate_left
      ·intro w'
       go_simp
       with_reducible rfl
      rotate_left
      ·simp only [Act.put, List.setIfInBounds_toArray, List.set_cons_zero, List.set_cons_succ, i64_w, i32_w]
       rfl
      refine pure_ (i := 1) (N := some 9) (v := ?_) (a' := ?_) #[true, true, false, false, false, false, false, false, false, false, false, false, false, false, false, false, false] rfl rfl (any_of HT_.out (by kernel_rfl)) (fun _ _ _ h => h) (Or.inl ⟨by rfl, ?_⟩) ?_ ?_
      rotate_left
      ·intro w'
       go_simp
       with_reducible rfl
      rotate_left
      ·simp only [Act.put, List.setIfInBounds_toArray, List.set_cons_zero, List.set_cons_succ, i64_w, i32_w]
       rfl
      refine pure_ (i := 2) (N := some 10) (v := ?_) (a' := ?_) #[true, true, true, false, false, false, false, false, false, false, false, false, false, false, false, false, false] rfl rfl (any_of HT_.out (by kernel_rfl)) (fun _ _ _ h => h) (Or.inl ⟨by rfl, ?_⟩) ?_ ?_
      rotate_left
      ·intro w'
       go_simp
       with_reducible rfl
      rotate_left
      ·simp only [Act.put, List.setIfInBounds_toArray, List.set_cons_zero, List.set_cons_succ, i64_w, i32_w]
       rfl
      refine pure_ (i := 3) (N := some 11) (v := ?_) (a' := ?_) #[true, true, true, true, false, false, false, false, false, false, false, false, false, false, false, false, false] rfl rfl (any_of HT_.out (by kernel_rfl)) (fun _ _ _ h => h) (Or.inl ⟨by rfl, ?_⟩) ?_ ?_
      rotate_left
      ·intro w'
       go_simp
       with_reducible rfl
      rotate_left
      ·simp only [Act.put, List.setIfInBounds_toArray, List.set_cons_zero, List.set_cons_succ, i64_w, i32_w]
       rfl
      refine pure_ (i := 4) (N := some 12) (v := ?_) (a' := ?_) #[true, true, true, true, true, false, false, false, false, false, false, false, false, false, false, false, false] rfl rfl (any_of HT_.out (by kernel_rfl)) (fun _ _ _ h => h) (Or.inl ⟨by rfl, ?_⟩) ?_ ?_
      rotate_left
      ·intro w'
       go_simp
       with_reducible rfl
      rotate_left
      ·simp only [Act.put, List.setIfInBounds_toArray, List.set_cons_zero, List.set_cons_succ, i64_w, i32_w]
       rfl
      refine pure_ (i := 5) (N := some 13) (v := ?_) (a' := ?_) #[true, true, true, true, true, true, false, false, false, false, false, false, false, false, false, false, false] rfl rfl (any_of HT_.out (by kernel_rfl)) (fun _ _ _ h => h) (Or.inl ⟨by rfl, ?_⟩) ?_ ?_
      rotate_left
      ·intro w'
       go_simp
       with_reducible rfl
      rotate_left
      ·simp only [Act.put, List.setIfInBounds_toArray, List.set_cons_zero, List.set_cons_succ, i64_w, i32_w]
       rfl
      refine pure_ (i := 6) (N := some 14) (v := ?_) (a' := ?_) #[true, true, true, true, true, true, true, false, false, false, false, false, false, false, false, false, false] rfl rfl (any_of HT_.out (by kernel_rfl)) (fun _ _ _ h => h) (Or.inl ⟨by rfl, ?_⟩) ?_ ?_
      rotate_left
      ·intro w'
       go_simp
       with_reducible rfl
      rotate_left
      ·simp only [Act.put, List.setIfInBounds_toArray, List.set_cons_zero, List.set_cons_succ, i64_w, i32_w]
       rfl
      refine pure_ (i := 7) (N := some 15) (v := ?_) (a' := ?_) #[true, true, true, true, true, true, true, true, false, false, false, false, false, false, false, false, false] rfl rfl (any_of HT_.out (by kernel_rfl)) (fun _ _ _ h => h) (Or.inl ⟨by rfl, ?_⟩) ?_ ?_
      rotate_left
      ·intro w'
       go_simp
       with_reducible rfl
      rotate_left
      ·simp only [Act.put, List.setIfInBounds_toArray, List.set_cons_zero, List.set_cons_succ, i64_w, i32_w]
       rfl
      refine pure_ (i := 8) (N := some 16) (v := ?_) (a' := ?_) #[true, true, true, true, true, true, true, true, true, false, false, false, false, false, false, false, false] rfl rfl (any_of HT_.out (by kernel_rfl)) (fun _ _ _ h => h) (Or.inl ⟨by rfl, ?_⟩) ?_ ?_
      rotate_left
      ·intro w'
       go_simp
       with_reducible rfl
      rotate_left
      ·simp only [Act.put, List.setIfInBounds_toArray, List.set_cons_zero, List.set_cons_succ, i64_w, i32_w]
       rfl
      refine pure_ (i := 9) (N := some 17) (v := ?_) (a' := ?_) #[true, true, true, true, true, true, true, true, true, true, false, false, false, false, false, false, false] rfl rfl (any_of HT_.out (by kernel_rfl)) (fun _ _ _ h => h) (Or.inl ⟨by rfl, ?_⟩) ?_ ?_
      rotate_left
      ·intro w'
       go_simp
       with_reducible rfl
      rotate_left
      ·simp only [Act.put, List.setIfInBounds_toArray, List.set_cons_zero, List.set_cons_succ, i64_w, i32_w]
       rfl
      refine pure_ (i := 10) (N := some 18) (v := ?_) (a' := ?_) #[true, true, true, true, true, true, true, true, true, true, true, false, false, false, false, false, false] rfl rfl (any_of HT_.out (by kernel_rfl)) (fun _ _ _ h => h) (Or.inl ⟨by rfl, ?_⟩) ?_ ?_
      rotate_left
      ·intro w'
       go_simp
       with_reducible rfl
      rotate_left
      ·simp only [Act.put, List.setIfInBounds_toArray, List.set_cons_zero, List.set_cons_succ, i64_w, i32_w]
       rfl
      refine pure_ (i := 11) (N := some 19) (v := ?_) (a' := ?_) #[true, true, true, true, true, true, true, true, true, true, true, true, false, false, false, false, false] rfl rfl (any_of HT_.out (by kernel_rfl)) (fun _ _ _ h => h) (Or.inl ⟨by rfl, ?_⟩) ?_ ?_
      rotate_left
      ·intro w'
       go_simp
       with_reducible rfl
      rotate_left
      ·simp only [Act.put, List.setIfInBounds_toArray, List.set_cons_zero, List.set_cons_succ, i64_w, i32_w]
       rfl
      refine pure_ (i := 12) (N := some 20) (v := ?_) (a' := ?_) #[true, true, true, true, true, true, true, true, true, true, true, true, true, false, false, false, false] rfl rfl (any_of HT_.out (by kernel_rfl)) (fun _ _ _ h => h) (Or.inl ⟨by rfl, ?_⟩) ?_ ?_
      rotate_left
      ·intro w'
       go_simp
       with_reducible rfl
      rotate_left
      ·simp only [Act.put, List.setIfInBounds_toArray, List.set_cons_zero, List.set_cons_succ, i64_w, i32_w]
       rfl
      refine one_ (i := 13) (N := some 21) #[true, true, true, true, true, true, true, true, true, true, true, true, true, true, false, false, false] rfl rfl (one_of HT_.out (by kernel_rfl)) (by decide) (fun K hK => ?_)
      refine goes_ Try.func128 (by kernel_rfl) rfl #[.string (a0.extract 0 ((ji6) : Int).toNat)] (by rfl) rfl rfl (by (try simp only [List.map_toArray, List.map_cons, List.map_nil]); first | done | (simp only [hji6]; rfl) | rfl | (simp only [List.length_drop, List.length_take]; rfl)) ?_
      with_reducible refine (spec_SumOf.calls k (a0.extract 0 ((ji6) : Int).toNat) t112 _ A11.out).mono ?_
      rintro e w' ⟨rfl, ⟨nd, rfl⟩⟩
      refine ⟨_, rfl, ?_⟩
      refine hK.out _ _ trivial (fun hHeld => ?_)
      clear hK K
      refine norm_ (a' := ?_) ?_ ?_
      rotate_left
      ·show Act.put _ (some 21) _ = _
       simp only [Act.put, List.setIfInBounds_toArray, List.set_cons_zero, List.set_cons_succ, i64_w, i32_w]
       rfl
      refine one_ (i := 14) (N := some 22) #[true, true, true, true, true, true, true, true, true, true, true, true, true, true, true, false, false] rfl rfl (one_of HT_.out (by kernel_rfl)) (by decide) (fun K hK => ?_)
      refine goes_ Try.func127 (by kernel_rfl) rfl #[.int .u32 t112] (by rfl) rfl rfl (by (try simp only [List.map_toArray, List.map_cons, List.map_nil]); first | done | rfl | (simp only [List.length_drop, List.length_take]; rfl)) ?_
      with_reducible refine (spec_l02Four.calls t112 t113 _ A12.out).mono ?_
      rintro e w19 ⟨rfl, hb⟩
      refine ⟨_, rfl, ?_⟩
      have n0_ := Aside0.mk (below_step (by repeat (first | (with_reducible first | exact HB.out | apply below_alloc | apply pw_below_drewN | apply below_drew1) | exact HB.out)) hb)
      clear HB
      have HB := n0_
      clear n0_
      (try clear hb)
      (try clear hb2)
      (try clear hk)
      (try clear hi)
      refine hK.out _ _ trivial (fun hHeld => ?_)
      clear hK K
      refine norm_ (a' := ?_) ?_ ?_
      rotate_left
      ·show Act.put _ (some 22) _ = _
       simp only [Act.put, List.setIfInBounds_toArray, List.set_cons_zero, List.set_cons_succ, i64_w, i32_w]
       rfl
      refine pure_ (i := 15) (N := some 23) (v := ?_) (a' := ?_) #[true, true, true, true, true, true, true, true, true, true, true, true, true, true, true, true, false] rfl rfl (any_of HT_.out (by kernel_rfl)) (fun _ _ _ h => h) (Or.inl ⟨by rfl, ?_⟩) ?_ ?_
      rotate_left
      ·intro w'
       go_simp
       with_reducible rfl
      rotate_left
      ·simp only [Act.put, List.setIfInBounds_toArray, List.set_cons_zero, List.set_cons_succ, i64_w, i32_w]
       rfl
      refine pure_ (i := 16) (N := some 24) (v := ?_) (a' := ?_) #[true, true, true, true, true, true, true, true, true, true, true, true, true, true, true, true, true] rfl rfl (any_of HT_.out (by kernel_rfl)) (fun _ _ _ h => h) (Or.inl ⟨by rfl, ?_⟩) ?_ ?_
      rotate_left
      ·intro w'
       go_simp
       with_reducible rfl
      rotate_left
      ·simp only [Act.put, List.setIfInBounds_toArray, List.set_cons_zero, List.set_cons_succ, i64_w, i32_w]
       rfl
      refine done_ (done_of HT_.out (by kernel_rfl)) ?_
      try go_wp2
      go_ret2
      exact ⟨by first | rfl | (simp [errW_none, errW_some] <;> rfl) | (simp only [← hji6]; first | rfl | (simp [errW_none, errW_some] <;> rfl)) | (simp [*, errW_none, errW_some] <;> rfl), by repeat (first | (with_reducible first | exact HB.out | apply below_alloc | apply pw_below_drewN | apply below_drew1) | exact HB.out)⟩
    ·rw [if_neg c8] at H
     exact absurd H (by simp)
   ·rw [if_neg c7] at H
    exact absurd H (by simp)
def spec_l01Var.l0 : Nat → Int → List Int → Option (ByteArray)
 | 0, _, _ => none
 | k + 1, x0, x3 => if x0 > 127 then (if x3.length < 140737488355328 then (spec_l01Var.l0 k (wrap64 (Int.tdiv x0 128)) (x3 ++ [(wrap64 ((Int.tmod x0 128) + 128)) % 256])) else (none)) else (if x3.length < 140737488355328 then (some (strOfNums (x3 ++ [(x0) % 256]))) else (none))
def spec_l01Var.f (k : Nat) (a0 : Int) : Option (ByteArray) := spec_l01Var.l0 k a0 (([] : List Int))
theorem spec_l01Var.mono_l : ∀ k, (∀ y0 y1, LeO (spec_l01Var.l0 k y0 y1) (spec_l01Var.l0 (k + 1) y0 y1))
 | 0 => fun _ _ r h => by simp [spec_l01Var.l0] at h
 | k + 1 => by
  have ih0 := spec_l01Var.mono_l k
  ·intro y0 y1
   unfold spec_l01Var.l0
   repeat' first
   | (with_reducible exact ih0 _ _)
   | (with_reducible exact LeO.refl _)
   | (with_reducible exact LeO.none _)
   | (with_reducible refine LeO.ite ?_ ?_)
   | (with_reducible refine LeO.bind ?_ (fun _ => ?_))
   | exact ih0 _ _
theorem spec_l01Var.mono : ∀ a0 k, LeO (spec_l01Var.f k a0) (spec_l01Var.f (k + 1) a0) := by
 intro a0 k
 have ih0 := spec_l01Var.mono_l k
 unfold spec_l01Var.f
 repeat' first
   | (with_reducible exact ih0 _ _)
   | (with_reducible exact LeO.refl _)
   | (with_reducible exact LeO.none _)
   | (with_reducible refine LeO.ite ?_ ?_)
   | (with_reducible refine LeO.bind ?_ (fun _ => ?_))
   | exact ih0 _ _
theorem spec_l01Var.calls (k : Nat) (a0 : Int) (r : ByteArray) (w : World) (h : spec_l01Var.f k a0 = some r) :
  Calls Try.prog 71 #[.int .i64 a0] w fun e w' => e = .returned (.string r) ∧ Below w.heap.size w w' := by
 have HB := Aside0.mk (Below.refl w.heap.size w)
 have H : (spec_l01Var.l0 k a0 (([] : List Int))) = some r := h
 clear h
 obtain ⟨y114, hy114⟩ : ∃ y_ : List Int, y_ = (([] : List Int)) := ⟨_, rfl⟩
 replace H : (spec_l01Var.l0 k a0 y114) = some r := by first | (rw [hy114]; with_reducible exact H) | (have H2_ := (Option.bind_some _ _).symm.trans H; rw [hy114]; with_reducible exact H2_) | (have H2_ := (Option.bind_some _ _).symm.trans H; with_reducible exact H2_) | with_reducible exact H | (rw [hy114]; exact H) | exact H
 have Ny114 := Aside0.mk hy114
 clear hy114
 have H' := Aside0.mk H
 clear H
 go_enter Try.func71, Try.ntmps71
 go_wp2_with (first | ((with_reducible refine gate_dst (N := 4) rfl ?_); refine Kd.R_lit (Kd.int .u8) _ 5 ?hg (N := 4) ?hd (xs := ([] : List Int)) (inner := []) (ok := fun _ => True) (okp := fun _ => True) ?hr ?hp (fun _ hk => hk) trivial (Below.refl _ _) (Nat.le_refl _) (by simp) ?_; (case hd => rfl); (case hg => rfl); (case hr => first | (go_simp; done) | (go_simp; rfl)); (case hp => exact (Reps.none _ _)); intro v115 w2 ho3 hb hg_ hnew_; clear hg_ hnew_; (first | rw [← Ny114.out] at ho3 | (simp only [Int.reduceToNat] at ho3; rw [← Ny114.out] at ho3)); have n0_ := Aside0.mk (Kd.R_lower ho3 (below_size (by repeat (first | (with_reducible first | exact HB.out | apply below_alloc | apply pw_below_drewN | apply below_drew1) | exact HB.out)))); have n1_ := Aside0.mk (below_step (by repeat (first | (with_reducible first | exact HB.out | apply below_alloc | apply pw_below_drewN | apply below_drew1) | exact HB.out)) hb); clear HB; have HO116 := n0_; have HB := n1_; clear n0_ n1_; clear hb ho3))
 go_loopg [0, 3] k (fun kq v0 v3 w' => ∃ (x0_1 : Int) (x3_1 : List Int), v0 = .int .i64 x0_1 ∧ Aside0 (spec_l01Var.l0 kq x0_1 x3_1 = some r) ∧ Aside0 (kq ≤ k) ∧ Aside0 (Kd.R (Kd.int .u8) 5 w' w.heap.size (fun _ => True) v3 x3_1) ∧ Aside0 (Below w.heap.size w w'))
 case atStart => exact ⟨(a0), (y114), (by first | rfl | (simp; done) | (simp [*]; done)), H', ⟨Nat.le_refl _⟩, ⟨by (with_reducible repeat (first | apply Kd.R_alloc | apply Kd.R_drewN | apply Kd.R_drew)); exact HO116.out⟩, ⟨by repeat (first | (with_reducible first | exact HB.out | apply below_alloc | apply pw_below_drewN | apply below_drew1) | exact HB.out)⟩⟩
 case round =>
  clear H'
  obtain ⟨x0_1, x3_1, rfl, HA, HK1, HO_3, HB⟩ := hrel
  cases gk with
  | zero => exact absurd HA.out (by simp [spec_l01Var.l0])
  | succ k1 =>
   have H := HA.out
   clear HA
   simp only [spec_l01Var.l0] at H
   by_cases c4 : x0_1 > 127
   ·rw [if_pos c4] at H
    have c4b0 : decide (127 < x0_1) = true := decide_eq_true c4
    clear c4
    by_cases c5 : x3_1.length < 140737488355328
    ·rw [if_pos c5] at H
     have LMc5 := Aside0.mk c5
     clear c5
     obtain ⟨y117, hy117⟩ : ∃ y_ : List Int, y_ = (x3_1 ++ [(wrap64 ((Int.tmod x0_1 128) + 128)) % 256]) := ⟨_, rfl⟩
     replace H : (spec_l01Var.l0 k1 (wrap64 (Int.tdiv x0_1 128)) y117) = some r := by first | (rw [hy117]; with_reducible exact H) | (have H2_ := (Option.bind_some _ _).symm.trans H; rw [hy117]; with_reducible exact H2_) | (have H2_ := (Option.bind_some _ _).symm.trans H; with_reducible exact H2_) | with_reducible exact H | (rw [hy117]; exact H) | exact H
     have Ny117 := Aside0.mk hy117
     clear hy117
     have H' := Aside0.mk H
     clear H
     go_wp2_with (first | ((with_reducible refine gate_builtin (b := .append) (xs := #[.tmp 7, .tmp 12]) rfl ?_); at_builtin; refine Kd.R_append (Kd.int .u8) (w0 := w) w.heap.size rfl (.tmp 7) (.tmp 12) 55 5 (.int .u8 0) 1 rfl Try.underlying55 info5 rfl (by decide) (by omega) u3 x3_1 ((wrap64 ((Int.tmod x0_1 128) + 128)) % 256) [.int .u8 ((wrap64 ((Int.tmod x0_1 128) + 128)) % 256)] (fun _ => True) (fun _ => False) rfl rfl ?aP (fun _ hk => hk.elim) ?aF ?aO ?aB ?aS ?aL ?_; (case aP => exact rfl); (case aB => exact (by repeat (first | (with_reducible first | exact HB.out | apply below_alloc | apply pw_below_drewN | apply below_drew1) | exact HB.out))); (case aF => exact (fun _ _ => trivial)); (case aO => exact (by (with_reducible repeat (first | apply Kd.R_alloc | apply Kd.R_drewN | apply Kd.R_drew)); exact HO_3.out)); (case aS => exact (below_size (by repeat (first | (with_reducible first | exact HB.out | apply below_alloc | apply pw_below_drewN | apply below_drew1) | exact HB.out)))); (case aL => have := LMc5.out; omega); intro v118 w6 ho hb hg hat; rw [← Ny117.out] at ho; have n0_ := Aside0.mk (hb); have n1_ := Aside0.mk (ho); clear HB; clear HO_3; have HB := n0_; have HO119 := n1_; clear n0_ n1_; clear ho hb hg hat))
     go_roundg k1
     case measure => have := HK1.out; omega
     case rel => exact ⟨(wrap64 (Int.tdiv x0_1 128)), (y117), (by first | rfl | (simp; done) | (simp [*]; done)), H', ⟨by have := HK1.out; omega⟩, ⟨by (with_reducible repeat (first | apply Kd.R_alloc | apply Kd.R_drewN | apply Kd.R_drew)); exact HO119.out⟩, ⟨by repeat (first | (with_reducible first | exact HB.out | apply below_alloc | apply pw_below_drewN | apply below_drew1) | exact HB.out)⟩⟩
    ·rw [if_neg c5] at H
     exact absurd H (by simp)
   ·rw [if_neg c4] at H
    have c4b0 : decide (127 < x0_1) = false := decide_eq_false c4
    clear c4
    by_cases c7 : x3_1.length < 140737488355328
    ·rw [if_pos c7] at H
     have LMc7 := Aside0.mk c7
     clear c7
     obtain ⟨y120, hy120⟩ : ∃ y_ : List Int, y_ = (x3_1 ++ [(x0_1) % 256]) := ⟨_, rfl⟩
     replace H : (some (strOfNums y120)) = some r := by first | (rw [hy120]; with_reducible exact H) | (have H2_ := (Option.bind_some _ _).symm.trans H; rw [hy120]; with_reducible exact H2_) | (have H2_ := (Option.bind_some _ _).symm.trans H; with_reducible exact H2_) | with_reducible exact H | (rw [hy120]; exact H) | exact H
     have Ny120 := Aside0.mk hy120
     clear hy120
     obtain rfl := Option.some.inj H
     go_wp2_with (first | ((with_reducible refine gate_builtin (b := .append) (xs := #[.tmp 16, .tmp 19]) rfl ?_); at_builtin; refine Kd.R_append (Kd.int .u8) (w0 := w) w.heap.size rfl (.tmp 16) (.tmp 19) 55 5 (.int .u8 0) 1 rfl Try.underlying55 info5 rfl (by decide) (by omega) u3 x3_1 ((x0_1) % 256) [.int .u8 ((x0_1) % 256)] (fun _ => True) (fun _ => False) rfl rfl ?aP (fun _ hk => hk.elim) ?aF ?aO ?aB ?aS ?aL ?_; (case aP => exact rfl); (case aB => exact (by repeat (first | (with_reducible first | exact HB.out | apply below_alloc | apply pw_below_drewN | apply below_drew1) | exact HB.out))); (case aF => exact (fun _ _ => trivial)); (case aO => exact (by (with_reducible repeat (first | apply Kd.R_alloc | apply Kd.R_drewN | apply Kd.R_drew)); exact HO_3.out)); (case aS => exact (below_size (by repeat (first | (with_reducible first | exact HB.out | apply below_alloc | apply pw_below_drewN | apply below_drew1) | exact HB.out)))); (case aL => have := LMc7.out; omega); intro v121 w8 ho hb hg hat; rw [← Ny120.out] at ho; have n0_ := Aside0.mk (hb); have n1_ := Aside0.mk (ho); clear HB; clear HO_3; have HB := n0_; have HO122 := n1_; clear n0_ n1_; clear ho hb hg hat; have hcv9 := own_string (P := Try.prog) Try.underlying55 Try.underlying5 Try.underlying9 (Kd.own_of_R HO122.out)))
     go_ret
     exact ⟨by first | rfl | (simp [errW_none, errW_some] <;> rfl) | (simp [*, errW_none, errW_some] <;> rfl), by repeat (first | (with_reducible first | exact HB.out | apply below_alloc | apply pw_below_drewN | apply below_drew1) | exact HB.out)⟩
    ·rw [if_neg c7] at H
     exact absurd H (by simp)
def spec_l01In.f (a0 : Int) (a1 : Int) (a2 : Int) : Option (Bool) := if a0 ≥ a1 then (some (decide (a0 ≤ a2))) else (some false)
theorem spec_l01In.calls (a0 : Int) (a1 : Int) (a2 : Int) (r : Bool) (w : World) (h : spec_l01In.f a0 a1 a2 = some r) :
  Calls Try.prog 76 #[.int .i64 a0, .int .i64 a1, .int .i64 a2] w fun e w' => e = .returned (.bool r) ∧ Drawn0 w w' := by
 have H : (if a0 ≥ a1 then (some (decide (a0 ≤ a2))) else (some false)) = some r := h
 clear h
 by_cases c4 : a0 ≥ a1
 ·rw [if_pos c4] at H
  have c4b0 : decide (a1 ≤ a0) = true := decide_eq_true c4
  clear c4
  obtain rfl := Option.some.inj H
  go_enter Try.func76, Try.ntmps76
  go_wp2
  go_ret
  exact ⟨by first | rfl | (simp; done) | (simp [*]; done), by repeat (first | exact Drawn0.refl _ | apply Drawn0.step)⟩
 ·rw [if_neg c4] at H
  have c4b0 : decide (a1 ≤ a0) = false := decide_eq_false c4
  clear c4
  obtain rfl := Option.some.inj H
  go_enter Try.func76, Try.ntmps76
  go_wp2
  go_ret
  exact ⟨by first | rfl | (simp; done) | (simp [*]; done), by repeat (first | exact Drawn0.refl _ | apply Drawn0.step)⟩
def lessB (a b : ByteArray) : Bool := Op.bytesLess a.toList b.toList
def Asc (l : List ByteArray) : Prop := ∀ j (h : j + 1 < l.length), lessB l[j] l[j + 1] = true
def ascB (l : List ByteArray) : Bool := (List.range (l.length - 1)).all fun j => lessB (l.getD j ByteArray.empty) (l.getD (j + 1) ByteArray.empty)
theorem ascB_iff (l : List ByteArray) : ascB l = true ↔ Asc l := by
 unfold ascB Asc
 rw [List.all_eq_true]
 constructor
 ·intro h j hj
  have := h j (by simp; omega)
  simpa [List.getD_eq_getElem?_getD, List.getElem?_eq_getElem hj, List.getElem?_eq_getElem (show j < l.length by omega)] using this
 ·intro h j hj
  have hj' : j + 1 < l.length := by simp at hj; omega
  simpa [List.getD_eq_getElem?_getD, List.getElem?_eq_getElem hj', List.getElem?_eq_getElem (show j < l.length by omega)] using h j hj'
def impl_ascending.f (l0 : List ByteArray) : Option Bool := some (ascB l0)
theorem rdOf_nat {α : Type} (d : α) (xs : List α) (k : Nat) (hk : k < xs.length) : rdOf d xs (k : Int) = xs[k] := by
 simp [rdOf, List.getD_eq_getElem?_getD, List.getElem?_eq_getElem hk]
theorem impl_ascending.calls (A0 : Option Addr) (c0 : Nat) (l0 : List ByteArray) (r : Bool) (w : World) (hr0 : Kd.C Kd.string w A0 l0.length l0) (hc0 : l0.length ≤ c0) (h : impl_ascending.f l0 = some r) :
  Calls Try.prog 89 #[.slice A0 l0.length c0] w fun e w' => e = .returned (.bool r) ∧ Below w.heap.size w w' := by
 have HR := Aside0.mk hr0
 have hbig := hr0.2.1
 have hres : (Asc l0 → r = true) ∧ (¬ Asc l0 → r = false) := by
  obtain rfl := Option.some.inj h
  exact ⟨fun q => (ascB_iff l0).2 q, fun q => by cases hh : ascB l0 with | false => rfl | true => exact absurd ((ascB_iff l0).1 hh) q⟩
 have HF := Aside0.mk hres
 clear hr0 hc0 h hres
 go_enter Try.func89, Try.ntmps89
 go_wp2
 repeat (go_quiet (fail); try go_wp2)
 go_loopg [6] l0.length (fun gg s6 wr => ∃ kk : Nat, kk ≤ l0.length ∧ l0.length - kk ≤ gg ∧ s6 = .int .i64 kk ∧ Drawn0 w wr ∧ Aside0 (∀ j (hj : j + 1 < l0.length), j + 1 < kk → lessB l0[j] l0[j + 1] = true))
 case atStart => exact ⟨0, Nat.zero_le _, by omega, rfl, by repeat (first | exact Drawn0.refl _ | apply Drawn0.step), ⟨fun j hj h => absurd h (Nat.not_lt_zero _)⟩⟩
 case round =>
  obtain ⟨kk, hkk, hg, rfl, ⟨m1, rfl⟩, A1⟩ := hrel
  by_cases hlt : kk < l0.length
  ·have hltz : (kk : Int) < (l0.length : Int) := by omega
   obtain ⟨ad, rfl, hcell⟩ := Kd.at_string HR.out (kk : Int) (by omega) hltz
   rw [rdOf_nat _ _ _ hlt, Int.toNat_natCast] at hcell
   by_cases h0 : kk = 0
   ·subst h0
    go_wp2
    repeat (go_quiet (fail); try go_wp2)
    go_roundg (l0.length - 1)
    case measure => omega
    case rel => exact ⟨1, by omega, by omega, by first | rfl | (simp; done), by repeat (first | exact Drawn0.refl _ | apply Drawn0.step), ⟨fun j hj h => absurd h (by omega)⟩⟩
   ·obtain ⟨m, hm⟩ : ∃ m, kk = m + 1 := ⟨kk - 1, by omega⟩
    have hmlt : m < l0.length := by omega
    have hmz : (m : Int) < (l0.length : Int) := by omega
    obtain ⟨ad', e', hcell'⟩ := Kd.at_string HR.out (m : Int) (by omega) hmz
    obtain rfl : ad = ad' := by injection e'
    rw [rdOf_nat _ _ _ hmlt, Int.toNat_natCast] at hcell'
    clear e'
    have hpos : decide ((0 : Int) < (kk : Int)) = true := decide_eq_true (by omega)
    have hposN : decide (0 < kk) = true := decide_eq_true (by omega)
    have hw1 : wrap64 ((kk : Int) - 1) = (m : Int) := by unfold wrap64; omega
    have hw2 : IntKind.i64.wrap ((kk : Int) - 1) = (m : Int) := (i64_w _).trans hw1
    obtain ⟨y, hy⟩ : ∃ y, l0[kk] = y := ⟨_, rfl⟩
    obtain ⟨x, hx⟩ : ∃ x, l0[m] = x := ⟨_, rfl⟩
    rw [hy] at hcell
    rw [hx] at hcell'
    have HYX := Aside0.mk (And.intro hy hx)
    clear hy hx
    have HM := Aside0.mk hm
    clear hm h0
    cases hless : Op.bytesLess x.toList y.toList with
    | true =>
     go_wp2
     repeat (go_quiet (fail); try go_wp2)
     have hw : wrap64 ((kk : Int) + 1) = ((kk + 1 : Nat) : Int) := by unfold wrap64; omega
     go_roundg (l0.length - (kk + 1))
     case measure => omega
     case rel =>
      refine ⟨kk + 1, by omega, by omega, by first | rfl | exact congrArg (Value.int .i64) hw, by repeat (first | exact Drawn0.refl _ | apply Drawn0.step), ⟨fun j hj h => ?_⟩⟩
      have := HM.out
      by_cases e : j = m
      ·subst e
       subst this
       show Op.bytesLess _ _ = true
       rw [HYX.out.1, HYX.out.2]
       exact hless
      ·exact A1.out j hj (by omega)
    | false =>
     go_wp2
     repeat (go_quiet (fail); try go_wp2)
     go_ret
     refine ⟨?_, Drawn0.below (by repeat (first | exact Drawn0.refl _ | apply Drawn0.step))⟩
     rw [HF.out.2 (fun hA => by
      have := HM.out
      subst this
      have hq := hA m hlt
      unfold lessB at hq
      rw [HYX.out.1, HYX.out.2, hless] at hq
      cases hq)]
     rfl
  ·have hltz : ¬ (kk : Int) < (l0.length : Int) := by omega
   have : kk = l0.length := by omega
   subst this
   go_wp2
   repeat (go_quiet (fail); try go_wp2)
   go_ret
   refine ⟨?_, Drawn0.below (by repeat (first | exact Drawn0.refl _ | apply Drawn0.step))⟩
   rw [HF.out.1 (fun j hj => A1.out j hj hj)]
   rfl
def ascPB (l : List S140) : Bool := (List.range (l.length - 1)).all fun j => lessB (l.getD j z140).f0 (l.getD (j + 1) z140).f0
def impl_keysAscend.f (l0 : List S140) : Option Bool := some (ascPB l0)
theorem rd_T140_nat (xs : List S140) (k : Nat) (hk : k < xs.length) : rd_T140 xs (k : Int) = xs[k] := by
 simp [rd_T140, List.getD_eq_getElem?_getD, List.getElem?_eq_getElem hk]
def NCond (leaf : Bool) (keys vals : List ByteArray) (kids : List Int) (j : Nat) : Prop :=
 (keys.getD j ByteArray.empty).size ≤ 24 ∧ (0 < j → lessB (keys.getD (j - 1) ByteArray.empty) (keys.getD j ByteArray.empty) = true) ∧ (leaf = true → (vals.getD j ByteArray.empty).size ≤ 24) ∧
  (leaf = false → 2 ≤ kids.getD j 0 ∧ kids.getD j 0 ≤ 39 ∧ ∀ q, q < j → kids.getD q 0 ≠ kids.getD j 0)
def NShape (leaf : Bool) (keys vals : List ByteArray) (kids : List Int) : Prop := (1 ≤ keys.length ∧ keys.length ≤ 4) ∧ (leaf = true → vals.length = keys.length ∧ kids.length = 0) ∧ (leaf = false → kids.length = keys.length ∧ vals.length = 0)
instance (leaf : Bool) (keys vals : List ByteArray) (kids : List Int) (j : Nat) : Decidable (NCond leaf keys vals kids j) := by unfold NCond; infer_instance
instance (leaf : Bool) (keys vals : List ByteArray) (kids : List Int) : Decidable (NShape leaf keys vals kids) := by unfold NShape; infer_instance
def specB (leaf : Bool) (keys vals : List ByteArray) (kids : List Int) : Bool := decide (NShape leaf keys vals kids) && (List.range keys.length).all fun j => decide (NCond leaf keys vals kids j)
theorem specB_iff (leaf : Bool) (keys vals : List ByteArray) (kids : List Int) : specB leaf keys vals kids = true ↔ NShape leaf keys vals kids ∧ ∀ j, j < keys.length → NCond leaf keys vals kids j := by
 unfold specB
 rw [Bool.and_eq_true, decide_eq_true_eq, List.all_eq_true]
 refine and_congr Iff.rfl ⟨fun h j hj => of_decide_eq_true (h j (List.mem_range.2 hj)), fun h j hj => decide_eq_true (h j (List.mem_range.1 hj))⟩
def spec_NodeOk.f (_k : Nat) (leaf : Bool) (keys vals : List ByteArray) (kids : List Int) : Option Bool := some (specB leaf keys vals kids)
theorem spec_NodeOk.mono : ∀ a0 a1 a2 a3 k, LeO (spec_NodeOk.f k a0 a1 a2 a3) (spec_NodeOk.f (k + 1) a0 a1 a2 a3) := fun _ _ _ _ _ => LeO.refl _
theorem no_r {r : Bool} {p : Prop} (h : r = true ↔ p) (hn : ¬ p) : r = false := by cases r; rfl; exact absurd (h.1 rfl) hn
theorem specNode_in (leaf : Bool) (A0_1 : Option Addr) (c0_1 : Nat) (keys : List ByteArray) (A0_2 : Option Addr) (c0_2 : Nat) (vals : List ByteArray) (A0_3 : Option Addr) (c0_3 : Nat) (kids : List Int) (r : Bool) (w : World) (hr0_1 : Kd.C Kd.string w A0_1 keys.length keys) (hr0_2 : Kd.C Kd.string w A0_2 vals.length vals) (hr0_3 : Kd.C (Kd.int .i64) w A0_3 kids.length kids) (hx : ¬ (1 ≤ keys.length ∧ keys.length ≤ 4)) (hf : r = true ↔ NShape leaf keys vals kids ∧ ∀ j, j < keys.length → NCond leaf keys vals kids j) :
  Calls Try.prog 31 #[.agg #[.bool leaf, .slice A0_1 keys.length c0_1, .slice A0_2 vals.length c0_2, .slice A0_3 kids.length c0_3]] w fun e w' => e = .returned (.bool r) ∧ Below w.heap.size w w' := by
 have HR1 := Aside0.mk hr0_1
 have HR2 := Aside0.mk hr0_2
 have HR3 := Aside0.mk hr0_3
 have HF := Aside0.mk hf
 clear hr0_1 hr0_2 hr0_3 hf
 have HIN : Aside0 (spec_l01In.f (keys.length : Int) 1 4 = some false) := ⟨by unfold spec_l01In.f; split; exact congrArg some (decide_eq_false (by omega)); first | rfl | (exfalso; omega)⟩
 go_enter Try.func31, Try.ntmps31
 go_wp2_with fail
 ((with_reducible refine (spec_l01In.calls _ 1 4 false _ HIN.out).mono ?_); rintro e w1 ⟨rfl, ⟨nd1, rfl⟩⟩)
 have hr : r = false := no_r HF.out (fun h => hx h.1.1)
 subst hr
 go_wp2
 go_ret
 exact ⟨rfl, pw_below_drewN (below_alloc (Below.refl _ _) _) _⟩
theorem specNode_leaf_vals (A0_1 : Option Addr) (c0_1 : Nat) (keys : List ByteArray) (A0_2 : Option Addr) (c0_2 : Nat) (vals : List ByteArray) (A0_3 : Option Addr) (c0_3 : Nat) (kids : List Int) (r : Bool) (w : World) (hr0_1 : Kd.C Kd.string w A0_1 keys.length keys) (hr0_2 : Kd.C Kd.string w A0_2 vals.length vals) (hr0_3 : Kd.C (Kd.int .i64) w A0_3 kids.length kids) (hx : 1 ≤ keys.length ∧ keys.length ≤ 4) (hv : ¬ vals.length = keys.length) (hf : r = true ↔ NShape true keys vals kids ∧ ∀ j, j < keys.length → NCond true keys vals kids j) :
  Calls Try.prog 31 #[.agg #[.bool true, .slice A0_1 keys.length c0_1, .slice A0_2 vals.length c0_2, .slice A0_3 kids.length c0_3]] w fun e w' => e = .returned (.bool r) ∧ Below w.heap.size w w' := by
 have HR1 := Aside0.mk hr0_1
 have HR2 := Aside0.mk hr0_2
 have HR3 := Aside0.mk hr0_3
 have HF := Aside0.mk hf
 clear hr0_1 hr0_2 hr0_3 hf
 have hz : ¬ (vals.length : Int) = (keys.length : Int) := by omega
 have hd : decide ((vals.length : Int) = (keys.length : Int)) = false := decide_eq_false hz
 have hb : ((vals.length : Int) == (keys.length : Int)) = false := beq_eq_false_iff_ne.2 hz
 have hn : ((vals.length : Int) != (keys.length : Int)) = true := by simp [bne, hb]
 have HIN : Aside0 (spec_l01In.f (keys.length : Int) 1 4 = some true) := ⟨by unfold spec_l01In.f; rw [if_pos (by omega), decide_eq_true (by omega)]⟩
 go_enter Try.func31, Try.ntmps31
 go_wp2_with fail
 ((with_reducible refine (spec_l01In.calls _ 1 4 true _ HIN.out).mono ?_); rintro e w1 ⟨rfl, ⟨nd1, rfl⟩⟩)
 have hr : r = false := no_r HF.out (fun h => hv (h.1.2.1 rfl).1)
 subst hr
 go_wp2
 go_ret
 exact ⟨rfl, pw_below_drewN (below_alloc (Below.refl _ _) _) _⟩
theorem specNode_leaf_kids (A0_1 : Option Addr) (c0_1 : Nat) (keys : List ByteArray) (A0_2 : Option Addr) (c0_2 : Nat) (vals : List ByteArray) (A0_3 : Option Addr) (c0_3 : Nat) (kids : List Int) (r : Bool) (w : World) (hr0_1 : Kd.C Kd.string w A0_1 keys.length keys) (hr0_2 : Kd.C Kd.string w A0_2 vals.length vals) (hr0_3 : Kd.C (Kd.int .i64) w A0_3 kids.length kids) (hx : 1 ≤ keys.length ∧ keys.length ≤ 4) (hv : vals.length = keys.length) (hk : ¬ kids.length = 0) (hf : r = true ↔ NShape true keys vals kids ∧ ∀ j, j < keys.length → NCond true keys vals kids j) :
  Calls Try.prog 31 #[.agg #[.bool true, .slice A0_1 keys.length c0_1, .slice A0_2 vals.length c0_2, .slice A0_3 kids.length c0_3]] w fun e w' => e = .returned (.bool r) ∧ Below w.heap.size w w' := by
 have HR1 := Aside0.mk hr0_1
 have HR2 := Aside0.mk hr0_2
 have HR3 := Aside0.mk hr0_3
 have HF := Aside0.mk hf
 clear hr0_1 hr0_2 hr0_3 hf
 have hz1 : (vals.length : Int) = (keys.length : Int) := by omega
 have hd1 : decide ((vals.length : Int) = (keys.length : Int)) = true := decide_eq_true hz1
 have hb1 : ((vals.length : Int) == (keys.length : Int)) = true := beq_iff_eq.2 hz1
 have hn1 : ((vals.length : Int) != (keys.length : Int)) = false := by simp [bne, hb1]
 have hz : ¬ (kids.length : Int) = 0 := by omega
 have hd : decide ((kids.length : Int) = 0) = false := decide_eq_false hz
 have hb : ((kids.length : Int) == 0) = false := beq_eq_false_iff_ne.2 hz
 have hn : ((kids.length : Int) != 0) = true := by simp [bne, hb]
 have HIN : Aside0 (spec_l01In.f (keys.length : Int) 1 4 = some true) := ⟨by unfold spec_l01In.f; rw [if_pos (by omega), decide_eq_true (by omega)]⟩
 go_enter Try.func31, Try.ntmps31
 go_wp2_with fail
 ((with_reducible refine (spec_l01In.calls _ 1 4 true _ HIN.out).mono ?_); rintro e w1 ⟨rfl, ⟨nd1, rfl⟩⟩)
 have hr : r = false := no_r HF.out (fun h => hk (h.1.2.1 rfl).2)
 subst hr
 go_wp2
 go_ret
 exact ⟨rfl, pw_below_drewN (below_alloc (Below.refl _ _) _) _⟩
theorem specNode_branch_kids (A0_1 : Option Addr) (c0_1 : Nat) (keys : List ByteArray) (A0_2 : Option Addr) (c0_2 : Nat) (vals : List ByteArray) (A0_3 : Option Addr) (c0_3 : Nat) (kids : List Int) (r : Bool) (w : World) (hr0_1 : Kd.C Kd.string w A0_1 keys.length keys) (hr0_2 : Kd.C Kd.string w A0_2 vals.length vals) (hr0_3 : Kd.C (Kd.int .i64) w A0_3 kids.length kids) (hx : 1 ≤ keys.length ∧ keys.length ≤ 4) (hv : ¬ kids.length = keys.length) (hf : r = true ↔ NShape false keys vals kids ∧ ∀ j, j < keys.length → NCond false keys vals kids j) :
  Calls Try.prog 31 #[.agg #[.bool false, .slice A0_1 keys.length c0_1, .slice A0_2 vals.length c0_2, .slice A0_3 kids.length c0_3]] w fun e w' => e = .returned (.bool r) ∧ Below w.heap.size w w' := by
 have HR1 := Aside0.mk hr0_1
 have HR2 := Aside0.mk hr0_2
 have HR3 := Aside0.mk hr0_3
 have HF := Aside0.mk hf
 clear hr0_1 hr0_2 hr0_3 hf
 have hz : ¬ (kids.length : Int) = (keys.length : Int) := by omega
 have hd : decide ((kids.length : Int) = (keys.length : Int)) = false := decide_eq_false hz
 have hb : ((kids.length : Int) == (keys.length : Int)) = false := beq_eq_false_iff_ne.2 hz
 have hn : ((kids.length : Int) != (keys.length : Int)) = true := by simp [bne, hb]
 have HIN : Aside0 (spec_l01In.f (keys.length : Int) 1 4 = some true) := ⟨by unfold spec_l01In.f; rw [if_pos (by omega), decide_eq_true (by omega)]⟩
 go_enter Try.func31, Try.ntmps31
 go_wp2_with fail
 ((with_reducible refine (spec_l01In.calls _ 1 4 true _ HIN.out).mono ?_); rintro e w1 ⟨rfl, ⟨nd1, rfl⟩⟩)
 have hr : r = false := no_r HF.out (fun h => hv (h.1.2.2 rfl).1)
 subst hr
 go_wp2
 go_ret
 exact ⟨rfl, pw_below_drewN (below_alloc (Below.refl _ _) _) _⟩
theorem specNode_branch_vals (A0_1 : Option Addr) (c0_1 : Nat) (keys : List ByteArray) (A0_2 : Option Addr) (c0_2 : Nat) (vals : List ByteArray) (A0_3 : Option Addr) (c0_3 : Nat) (kids : List Int) (r : Bool) (w : World) (hr0_1 : Kd.C Kd.string w A0_1 keys.length keys) (hr0_2 : Kd.C Kd.string w A0_2 vals.length vals) (hr0_3 : Kd.C (Kd.int .i64) w A0_3 kids.length kids) (hx : 1 ≤ keys.length ∧ keys.length ≤ 4) (hv : kids.length = keys.length) (hk : ¬ vals.length = 0) (hf : r = true ↔ NShape false keys vals kids ∧ ∀ j, j < keys.length → NCond false keys vals kids j) :
  Calls Try.prog 31 #[.agg #[.bool false, .slice A0_1 keys.length c0_1, .slice A0_2 vals.length c0_2, .slice A0_3 kids.length c0_3]] w fun e w' => e = .returned (.bool r) ∧ Below w.heap.size w w' := by
 have HR1 := Aside0.mk hr0_1
 have HR2 := Aside0.mk hr0_2
 have HR3 := Aside0.mk hr0_3
 have HF := Aside0.mk hf
 clear hr0_1 hr0_2 hr0_3 hf
 have hz1 : (kids.length : Int) = (keys.length : Int) := by omega
 have hd1 : decide ((kids.length : Int) = (keys.length : Int)) = true := decide_eq_true hz1
 have hb1 : ((kids.length : Int) == (keys.length : Int)) = true := beq_iff_eq.2 hz1
 have hn1 : ((kids.length : Int) != (keys.length : Int)) = false := by simp [bne, hb1]
 have hz : ¬ (vals.length : Int) = 0 := by omega
 have hd : decide ((vals.length : Int) = 0) = false := decide_eq_false hz
 have hb : ((vals.length : Int) == 0) = false := beq_eq_false_iff_ne.2 hz
 have hn : ((vals.length : Int) != 0) = true := by simp [bne, hb]
 have HIN : Aside0 (spec_l01In.f (keys.length : Int) 1 4 = some true) := ⟨by unfold spec_l01In.f; rw [if_pos (by omega), decide_eq_true (by omega)]⟩
 go_enter Try.func31, Try.ntmps31
 go_wp2_with fail
 ((with_reducible refine (spec_l01In.calls _ 1 4 true _ HIN.out).mono ?_); rintro e w1 ⟨rfl, ⟨nd1, rfl⟩⟩)
 have hr : r = false := no_r HF.out (fun h => hk (h.1.2.2 rfl).2)
 subst hr
 go_wp2
 go_ret
 exact ⟨rfl, pw_below_drewN (below_alloc (Below.refl _ _) _) _⟩
theorem specNode_leaf (A0_1 : Option Addr) (c0_1 : Nat) (keys : List ByteArray) (A0_2 : Option Addr) (c0_2 : Nat) (vals : List ByteArray) (A0_3 : Option Addr) (c0_3 : Nat) (kids : List Int) (r : Bool) (w : World) (hr0_1 : Kd.C Kd.string w A0_1 keys.length keys) (hr0_2 : Kd.C Kd.string w A0_2 vals.length vals) (hr0_3 : Kd.C (Kd.int .i64) w A0_3 kids.length kids) (hx : 1 ≤ keys.length ∧ keys.length ≤ 4) (hv : vals.length = keys.length) (hk : kids.length = 0) (hf : r = true ↔ NShape true keys vals kids ∧ ∀ j, j < keys.length → NCond true keys vals kids j) :
  Calls Try.prog 31 #[.agg #[.bool true, .slice A0_1 keys.length c0_1, .slice A0_2 vals.length c0_2, .slice A0_3 kids.length c0_3]] w fun e w' => e = .returned (.bool r) ∧ Below w.heap.size w w' := by
 have HR1 := Aside0.mk hr0_1
 have HR2 := Aside0.mk hr0_2
 have HR3 := Aside0.mk hr0_3
 have HF := Aside0.mk hf
 clear hr0_1 hr0_2 hr0_3 hf
 have hz1 : (vals.length : Int) = (keys.length : Int) := by omega
 have hd1 : decide ((vals.length : Int) = (keys.length : Int)) = true := decide_eq_true hz1
 have hb1 : ((vals.length : Int) == (keys.length : Int)) = true := beq_iff_eq.2 hz1
 have hn1 : ((vals.length : Int) != (keys.length : Int)) = false := by simp [bne, hb1]
 have hz : (kids.length : Int) = 0 := by omega
 have hd : decide ((kids.length : Int) = 0) = true := decide_eq_true hz
 have hb : ((kids.length : Int) == 0) = true := beq_iff_eq.2 hz
 have hn : ((kids.length : Int) != 0) = false := by simp [bne, hb]
 have HVE := Aside0.mk (And.intro hv hk)
 clear hz hz1 hv hk
 have HIN : Aside0 (spec_l01In.f (keys.length : Int) 1 4 = some true) := ⟨by unfold spec_l01In.f; rw [if_pos (by omega), decide_eq_true (by omega)]⟩
 go_enter Try.func31, Try.ntmps31
 go_wp2_with fail
 ((with_reducible refine (spec_l01In.calls _ 1 4 true _ HIN.out).mono ?_); rintro e w1 ⟨rfl, ⟨nd1, rfl⟩⟩)
 go_wp2
 clear hd hb hn hd1 hb1 hn1
 go_loopg [4] keys.length (fun gg s4 wr => ∃ i : Nat, i ≤ keys.length ∧ keys.length - i ≤ gg ∧ s4 = .int .i64 i ∧ Aside0 (∀ j, j < i → NCond true keys vals kids j) ∧ Aside0 (Below w.heap.size w wr) ∧ Aside0 (wr.heap[w.heap.size]? = some (.cells #[.bool true, .slice A0_1 keys.length c0_1, .slice A0_2 vals.length c0_2, .slice A0_3 kids.length c0_3] 68 (0, 0))))
 case atStart => exact ⟨0, Nat.zero_le _, by omega, rfl, ⟨fun j hj => absurd hj (Nat.not_lt_zero _)⟩, ⟨pw_below_drewN (below_alloc (Below.refl _ _) _) _⟩, ⟨blk_drewN (blk_new _ _) _⟩⟩
 case round =>
  obtain ⟨i, hi, hg, rfl, A, HB, BN⟩ := hrel
  have hb0 : wr.cell? ⟨w.heap.size, 0, none⟩ = some (.bool true) := (blk_cell BN.out 0).trans rfl
  by_cases hlt : i < keys.length
  ·have hltz : (i : Int) < (keys.length : Int) := by omega
   obtain ⟨ad, rfl, hc⟩ := Kd.at_string (Kd.C_below HR1.out HB.out) (i : Int) (by omega) hltz
   rw [Int.toNat_natCast] at hc
   obtain ⟨x, hx⟩ : ∃ x, rdOf ByteArray.empty keys (i : Int) = x := ⟨_, rfl⟩
   rw [hx] at hc
   have HX : Aside0 (keys.getD i ByteArray.empty = x) := ⟨hx⟩
   clear hx
   obtain ⟨av, rfl, hcv⟩ := Kd.at_string (Kd.C_below HR2.out HB.out) (i : Int) (by omega) (by have := HVE.out; omega)
   rw [Int.toNat_natCast] at hcv
   obtain ⟨v, hv2⟩ : ∃ v, rdOf ByteArray.empty vals (i : Int) = v := ⟨_, rfl⟩
   rw [hv2] at hcv
   have HV : Aside0 (vals.getD i ByteArray.empty = v) := ⟨hv2⟩
   have hvlz : (i : Int) < (vals.length : Int) := by have := HVE.out; omega
   clear hv2
   have hb2 : wr.cell? ⟨w.heap.size, 2, none⟩ = some (.slice (some av) vals.length c0_2) := (blk_cell BN.out 2).trans rfl
   have hb1 : wr.cell? ⟨w.heap.size, 1, none⟩ = some (.slice (some ad) keys.length c0_1) := (blk_cell BN.out 1).trans rfl
   by_cases h24 : 24 < x.size
   ·have h24d : decide ((24 : Int) < (x.size : Int)) = true := decide_eq_true (by omega)
    have hr : r = false := no_r HF.out (fun h => by have := (h.2 i hlt).1; rw [HX.out] at this; omega)
    subst hr
    go_wp2
    repeat (go_quiet (fail); try go_wp2)
    go_ret
    exact ⟨rfl, Below.trans HB.out (Below.mono (Drawn0.below ⟨_, rfl⟩) HB.out.size)⟩
   ·have h24d : decide ((24 : Int) < (x.size : Int)) = false := decide_eq_false (by omega)
    by_cases hi0 : i = 0
    ·have hi0z : ¬ (0 : Int) < (i : Int) := by omega
     have hi0d : decide ((0 : Int) < (i : Int)) = false := decide_eq_false hi0z
     have HI0 := Aside0.mk hi0
     have hi0n : ¬ 0 < i := by omega
     have hi0e : decide (0 < i) = false := decide_eq_false hi0n
     clear hi0
     by_cases hv24 : 24 < v.size
     ·have hvd : decide ((24 : Int) < (v.size : Int)) = true := decide_eq_true (by omega)
      have hr : r = false := no_r HF.out (fun h => by have := (h.2 i hlt).2.2.1 rfl; rw [HV.out] at this; omega)
      subst hr
      go_wp2
      repeat (go_quiet (fail); try go_wp2)
      go_ret
      exact ⟨rfl, Below.trans HB.out (Below.mono (Drawn0.below ⟨_, rfl⟩) HB.out.size)⟩
     ·have hvd : decide ((24 : Int) < (v.size : Int)) = false := decide_eq_false (by omega)
      go_wp2
      repeat (go_quiet (fail); try go_wp2)
      have HW := Aside0.mk (show wrap64 ((i : Int) + 1) = ((i + 1 : Nat) : Int) by unfold wrap64; omega)
      go_roundg (keys.length - (i + 1))
      case measure => omega
      case rel => exact ⟨i + 1, by omega, by omega, by first | rfl | exact congrArg (Value.int .i64) HW.out, ⟨fun j hj => by
        by_cases e : j = i
        ·subst e
         exact ⟨by rw [HX.out]; omega, fun h => absurd h (by have := HI0.out; omega), fun _ => by rw [HV.out]; omega, (fun q => by cases q)⟩
        ·exact A.out j (by omega)⟩, ⟨Below.trans HB.out (Below.mono (Drawn0.below ⟨_, rfl⟩) HB.out.size)⟩, ⟨blk_drewN BN.out _⟩⟩
    ·obtain ⟨m, hm⟩ : ∃ m, i = m + 1 := ⟨i - 1, by omega⟩
     have hmz : (m : Int) < (keys.length : Int) := by omega
     obtain ⟨ad', e', hcm⟩ := Kd.at_string (Kd.C_below HR1.out HB.out) (m : Int) (by omega) hmz
     obtain rfl : ad = ad' := by injection e'
     rw [Int.toNat_natCast] at hcm
     obtain ⟨p, hp⟩ : ∃ p, rdOf ByteArray.empty keys (m : Int) = p := ⟨_, rfl⟩
     rw [hp] at hcm
     have HP : Aside0 (keys.getD (i - 1) ByteArray.empty = p) := ⟨by rw [hm]; exact hp⟩
     have hw1 : wrap64 ((i : Int) - 1) = (m : Int) := by unfold wrap64; omega
     have hw2 : IntKind.i64.wrap ((i : Int) - 1) = (m : Int) := (i64_w _).trans hw1
     have hi0z : (0 : Int) < (i : Int) := by omega
     have hi0n : 0 < i := by omega
     have hi0e : decide (0 < i) = true := decide_eq_true hi0n
     have HM := Aside0.mk hm
     clear hp e' hm
     cases hls : Op.bytesLess p.toList x.toList with
     | false =>
      have hr : r = false := no_r HF.out (fun h => by have := (h.2 i hlt).2.1 (by omega); rw [HP.out, HX.out] at this; unfold lessB at this; rw [hls] at this; cases this)
      subst hr
      go_wp2
      repeat (go_quiet (fail); try go_wp2)
      go_ret
      exact ⟨rfl, Below.trans HB.out (Below.mono (Drawn0.below ⟨_, rfl⟩) HB.out.size)⟩
     | true =>
      have HLS : Aside0 (lessB (keys.getD (i - 1) ByteArray.empty) (keys.getD i ByteArray.empty) = true) := ⟨by rw [HP.out, HX.out]; exact hls⟩
      by_cases hv24 : 24 < v.size
      ·have hvd : decide ((24 : Int) < (v.size : Int)) = true := decide_eq_true (by omega)
       have hr : r = false := no_r HF.out (fun h => by have := (h.2 i hlt).2.2.1 rfl; rw [HV.out] at this; omega)
       subst hr
       go_wp2
       repeat (go_quiet (fail); try go_wp2)
       go_ret
       exact ⟨rfl, Below.trans HB.out (Below.mono (Drawn0.below ⟨_, rfl⟩) HB.out.size)⟩
      ·have hvd : decide ((24 : Int) < (v.size : Int)) = false := decide_eq_false (by omega)
       go_wp2
       repeat (go_quiet (fail); try go_wp2)
       have HW := Aside0.mk (show wrap64 ((i : Int) + 1) = ((i + 1 : Nat) : Int) by clear hw1 hw2; unfold wrap64; omega)
       go_roundg (keys.length - (i + 1))
       case measure => omega
       case rel => exact ⟨i + 1, by omega, by omega, by first | rfl | exact congrArg (Value.int .i64) HW.out, ⟨fun j hj => by
         by_cases e : j = i
         ·subst e
          exact ⟨by rw [HX.out]; omega, fun _ => HLS.out, fun _ => by rw [HV.out]; omega, (fun q => by cases q)⟩
         ·exact A.out j (by omega)⟩, ⟨Below.trans HB.out (Below.mono (Drawn0.below ⟨_, rfl⟩) HB.out.size)⟩, ⟨blk_drewN BN.out _⟩⟩
  ·have hltz : ¬ (i : Int) < (keys.length : Int) := by omega
   have hr : r = true := HF.out.2 ⟨⟨hx, fun _ => HVE.out, (fun q => by cases q)⟩, fun j hj => A.out j (by omega)⟩
   subst hr
   go_wp2
   go_ret
   exact ⟨rfl, HB.out⟩
theorem specNode_branch (A0_1 : Option Addr) (c0_1 : Nat) (keys : List ByteArray) (A0_2 : Option Addr) (c0_2 : Nat) (vals : List ByteArray) (A0_3 : Option Addr) (c0_3 : Nat) (kids : List Int) (r : Bool) (w : World) (hr0_1 : Kd.C Kd.string w A0_1 keys.length keys) (hr0_2 : Kd.C Kd.string w A0_2 vals.length vals) (hr0_3 : Kd.C (Kd.int .i64) w A0_3 kids.length kids) (hx : 1 ≤ keys.length ∧ keys.length ≤ 4) (hv : kids.length = keys.length) (hk : vals.length = 0) (hf : r = true ↔ NShape false keys vals kids ∧ ∀ j, j < keys.length → NCond false keys vals kids j) :
  Calls Try.prog 31 #[.agg #[.bool false, .slice A0_1 keys.length c0_1, .slice A0_2 vals.length c0_2, .slice A0_3 kids.length c0_3]] w fun e w' => e = .returned (.bool r) ∧ Below w.heap.size w w' := by
 have HR1 := Aside0.mk hr0_1
 have HR2 := Aside0.mk hr0_2
 have HR3 := Aside0.mk hr0_3
 have HF := Aside0.mk hf
 clear hr0_1 hr0_2 hr0_3 hf
 have hz1 : (kids.length : Int) = (keys.length : Int) := by omega
 have hd1 : decide ((kids.length : Int) = (keys.length : Int)) = true := decide_eq_true hz1
 have hb1 : ((kids.length : Int) == (keys.length : Int)) = true := beq_iff_eq.2 hz1
 have hn1 : ((kids.length : Int) != (keys.length : Int)) = false := by simp [bne, hb1]
 have hz : (vals.length : Int) = 0 := by omega
 have hd : decide ((vals.length : Int) = 0) = true := decide_eq_true hz
 have hb : ((vals.length : Int) == 0) = true := beq_iff_eq.2 hz
 have hn : ((vals.length : Int) != 0) = false := by simp [bne, hb]
 have HVE := Aside0.mk (And.intro hv hk)
 clear hz hz1 hv hk
 have HIN : Aside0 (spec_l01In.f (keys.length : Int) 1 4 = some true) := ⟨by unfold spec_l01In.f; rw [if_pos (by omega), decide_eq_true (by omega)]⟩
 go_enter Try.func31, Try.ntmps31
 go_wp2_with fail
 ((with_reducible refine (spec_l01In.calls _ 1 4 true _ HIN.out).mono ?_); rintro e w1 ⟨rfl, ⟨nd1, rfl⟩⟩)
 go_wp2
 clear hd hb hn hd1 hb1 hn1
 go_loopg [4] keys.length (fun gg s4 wr => ∃ i : Nat, i ≤ keys.length ∧ keys.length - i ≤ gg ∧ s4 = .int .i64 i ∧ Aside0 (∀ j, j < i → NCond false keys vals kids j) ∧ Aside0 (Below w.heap.size w wr) ∧ Aside0 (wr.heap[w.heap.size]? = some (.cells #[.bool false, .slice A0_1 keys.length c0_1, .slice A0_2 vals.length c0_2, .slice A0_3 kids.length c0_3] 68 (0, 0))))
 case atStart => exact ⟨0, Nat.zero_le _, by omega, rfl, ⟨fun j hj => absurd hj (Nat.not_lt_zero _)⟩, ⟨pw_below_drewN (below_alloc (Below.refl _ _) _) _⟩, ⟨blk_drewN (blk_new _ _) _⟩⟩
 case round =>
  obtain ⟨i, hi, hg, rfl, A, HB, BN⟩ := hrel
  have hb0 : wr.cell? ⟨w.heap.size, 0, none⟩ = some (.bool false) := (blk_cell BN.out 0).trans rfl
  by_cases hlt : i < keys.length
  ·have hltz : (i : Int) < (keys.length : Int) := by omega
   obtain ⟨ad, rfl, hc⟩ := Kd.at_string (Kd.C_below HR1.out HB.out) (i : Int) (by omega) hltz
   rw [Int.toNat_natCast] at hc
   obtain ⟨x, hx⟩ : ∃ x, rdOf ByteArray.empty keys (i : Int) = x := ⟨_, rfl⟩
   rw [hx] at hc
   have HX : Aside0 (keys.getD i ByteArray.empty = x) := ⟨hx⟩
   clear hx
   obtain ⟨ak, rfl, hck⟩ := Kd.at_int (Kd.C_below HR3.out HB.out) (i : Int) (by omega) (by have := HVE.out; omega)
   rw [Int.toNat_natCast] at hck
   obtain ⟨y, hy⟩ : ∃ y, rd kids (i : Int) = y := ⟨_, rfl⟩
   rw [hy] at hck
   have HY : Aside0 (kids.getD i 0 = y) := ⟨hy⟩
   have hylz : (i : Int) < (kids.length : Int) := by have := HVE.out; omega
   clear hy
   have hb2 : True := trivial
   have hb3 : wr.cell? ⟨w.heap.size, 3, none⟩ = some (.slice (some ak) kids.length c0_3) := (blk_cell BN.out 3).trans rfl
   have hb1 : wr.cell? ⟨w.heap.size, 1, none⟩ = some (.slice (some ad) keys.length c0_1) := (blk_cell BN.out 1).trans rfl
   by_cases h24 : 24 < x.size
   ·have h24d : decide ((24 : Int) < (x.size : Int)) = true := decide_eq_true (by omega)
    have hr : r = false := no_r HF.out (fun h => by have := (h.2 i hlt).1; rw [HX.out] at this; omega)
    subst hr
    go_wp2
    repeat (go_quiet (fail); try go_wp2)
    go_ret
    exact ⟨rfl, Below.trans HB.out (Below.mono (Drawn0.below ⟨_, rfl⟩) HB.out.size)⟩
   ·have h24d : decide ((24 : Int) < (x.size : Int)) = false := decide_eq_false (by omega)
    by_cases hi0 : i = 0
    ·have hi0z : ¬ (0 : Int) < (i : Int) := by omega
     have hi0d : decide ((0 : Int) < (i : Int)) = false := decide_eq_false hi0z
     have HI0 := Aside0.mk hi0
     have hi0n : ¬ 0 < i := by omega
     have hi0e : decide (0 < i) = false := decide_eq_false hi0n
     clear hi0
     by_cases hq : 2 ≤ y ∧ y ≤ 39
     ·have HQ : Aside0 (spec_l01In.f y 2 39 = some true) := ⟨by unfold spec_l01In.f; rw [if_pos (by omega), decide_eq_true (by omega)]⟩
      go_wp2_with fail
      repeat (go_quiet (fail); try go_wp2_with fail)
      ((with_reducible refine (spec_l01In.calls y 2 39 true _ HQ.out).mono ?_); rintro e w9 ⟨rfl, ⟨nd9, rfl⟩⟩)
      go_wp2
      go_loopg [5] i (fun gg s5 wq => ∃ q : Nat, q ≤ i ∧ i - q ≤ gg ∧ s5 = .int .i64 q ∧ Aside0 (∀ p, p < q → kids.getD p 0 ≠ y) ∧ Aside0 (Below w.heap.size w wq) ∧ Aside0 (wq.heap[w.heap.size]? = some (.cells #[.bool false, .slice (some ad) keys.length c0_1, .slice A0_2 vals.length c0_2, .slice (some ak) kids.length c0_3] 68 (0, 0))))
      case atStart => exact ⟨0, Nat.zero_le _, by omega, rfl, ⟨fun p hp => absurd hp (Nat.not_lt_zero _)⟩, ⟨Below.trans HB.out (Below.mono (Drawn0.below ⟨_, rfl⟩) HB.out.size)⟩, ⟨blk_drewN BN.out _⟩⟩
      case round =>
       clear HB BN hb0 hb1 hb2 hb3
       obtain ⟨q, hqi, hg2, rfl, AQ, HB, BN⟩ := hrel
       have hb3 : wr.cell? ⟨w.heap.size, 3, none⟩ = some (.slice (some ak) kids.length c0_3) := (blk_cell BN.out 3).trans rfl
       have hb0 : wr.cell? ⟨w.heap.size, 0, none⟩ = some (.bool false) := (blk_cell BN.out 0).trans rfl
       by_cases hql : q < i
       ·have hqz : (q : Int) < (i : Int) := by omega
        have hik : (i : Int) < (kids.length : Int) := by have := HVE.out; omega
        have hqk : (q : Int) < (kids.length : Int) := by omega
        obtain ⟨ak', e', hcq⟩ := Kd.at_int (Kd.C_below HR3.out HB.out) (q : Int) (by omega) hqk
        obtain rfl : ak = ak' := by injection e'
        obtain ⟨ak', e'', hci⟩ := Kd.at_int (Kd.C_below HR3.out HB.out) (i : Int) (by omega) hik
        obtain rfl : ak = ak' := by injection e''
        rw [Int.toNat_natCast] at hcq hci
        obtain ⟨z, hz⟩ : ∃ z, rd kids (q : Int) = z := ⟨_, rfl⟩
        rw [hz] at hcq
        rw [show rd kids (i : Int) = y from HY.out] at hci
        have HZ : Aside0 (kids.getD q 0 = z) := ⟨hz⟩
        clear hz e' e''
        by_cases hzy : z = y
        ·subst hzy
         have hr : r = false := no_r HF.out (fun h => by have := ((h.2 i hlt).2.2.2 rfl).2.2 q hql; rw [HZ.out, HY.out] at this; exact this rfl)
         subst hr
         go_wp2
         repeat (go_quiet (fail); try go_wp2)
         go_ret
         exact ⟨rfl, Below.trans HB.out (Below.mono (Drawn0.below ⟨_, rfl⟩) HB.out.size)⟩
        ·have hzd : decide (z = y) = false := decide_eq_false hzy
         have hzb : (z == y) = false := beq_eq_false_iff_ne.2 hzy
         have HZY := Aside0.mk hzy
         clear hzy
         go_wp2
         repeat (go_quiet (fail); try go_wp2)
         have HW := Aside0.mk (show wrap64 ((q : Int) + 1) = ((q + 1 : Nat) : Int) by unfold wrap64; omega)
         go_roundg (i - (q + 1))
         case measure => omega
         case rel => exact ⟨q + 1, by omega, by omega, by first | rfl | exact congrArg (Value.int .i64) HW.out, ⟨fun p hp => by
           by_cases e : p = q
           ·subst e; rw [HZ.out]; exact HZY.out
           ·exact AQ.out p (by omega)⟩, ⟨Below.trans HB.out (Below.mono (Drawn0.below ⟨_, rfl⟩) HB.out.size)⟩, ⟨blk_drewN BN.out _⟩⟩
       ·obtain rfl : q = i := by omega
        have hqz : ¬ (q : Int) < (q : Int) := by omega
        have HK : Aside0 (2 ≤ kids.getD q 0 ∧ kids.getD q 0 ≤ 39 ∧ ∀ p, p < q → kids.getD p 0 ≠ kids.getD q 0) := ⟨by rw [HY.out]; exact ⟨hq.1, hq.2, AQ.out⟩⟩
        clear hqi hg2 hql
        go_wp2
        have HW := Aside0.mk (show wrap64 ((q : Int) + 1) = ((q + 1 : Nat) : Int) by unfold wrap64; omega)
        go_roundg (keys.length - (q + 1))
        case measure => omega
        case rel => exact ⟨q + 1, by omega, by omega, by first | rfl | exact congrArg (Value.int .i64) HW.out, ⟨fun j hj => by
          by_cases e : j = q
          ·subst e
           exact ⟨by rw [HX.out]; omega, fun h => absurd h (by have := HI0.out; omega), (fun q => by cases q), fun _ => HK.out⟩
          ·exact A.out j (by omega)⟩, HB, BN⟩
     ·have HQ : Aside0 (spec_l01In.f y 2 39 = some false) := ⟨by unfold spec_l01In.f; split; exact congrArg some (decide_eq_false (by omega)); first | rfl | (exfalso; omega)⟩
      have hr : r = false := no_r HF.out (fun h => by have := (h.2 i hlt).2.2.2 rfl; rw [HY.out] at this; exact hq ⟨this.1, this.2.1⟩)
      subst hr
      go_wp2_with fail
      repeat (go_quiet (fail); try go_wp2_with fail)
      ((with_reducible refine (spec_l01In.calls y 2 39 false _ HQ.out).mono ?_); rintro e w9 ⟨rfl, ⟨nd9, rfl⟩⟩)
      go_wp2
      go_ret
      exact ⟨rfl, Below.trans HB.out (Below.mono (Drawn0.below ⟨_, rfl⟩) HB.out.size)⟩
    ·obtain ⟨m, hm⟩ : ∃ m, i = m + 1 := ⟨i - 1, by omega⟩
     have hmz : (m : Int) < (keys.length : Int) := by omega
     obtain ⟨ad', e', hcm⟩ := Kd.at_string (Kd.C_below HR1.out HB.out) (m : Int) (by omega) hmz
     obtain rfl : ad = ad' := by injection e'
     rw [Int.toNat_natCast] at hcm
     obtain ⟨p, hp⟩ : ∃ p, rdOf ByteArray.empty keys (m : Int) = p := ⟨_, rfl⟩
     rw [hp] at hcm
     have HP : Aside0 (keys.getD (i - 1) ByteArray.empty = p) := ⟨by rw [hm]; exact hp⟩
     have hw1 : wrap64 ((i : Int) - 1) = (m : Int) := by unfold wrap64; omega
     have hw2 : IntKind.i64.wrap ((i : Int) - 1) = (m : Int) := (i64_w _).trans hw1
     have hi0z : (0 : Int) < (i : Int) := by omega
     have hi0n : 0 < i := by omega
     have hi0e : decide (0 < i) = true := decide_eq_true hi0n
     have HM := Aside0.mk hm
     clear hp e' hm
     cases hls : Op.bytesLess p.toList x.toList with
     | false =>
      have hr : r = false := no_r HF.out (fun h => by have := (h.2 i hlt).2.1 (by omega); rw [HP.out, HX.out] at this; unfold lessB at this; rw [hls] at this; cases this)
      subst hr
      go_wp2
      repeat (go_quiet (fail); try go_wp2)
      go_ret
      exact ⟨rfl, Below.trans HB.out (Below.mono (Drawn0.below ⟨_, rfl⟩) HB.out.size)⟩
     | true =>
      have HLS : Aside0 (lessB (keys.getD (i - 1) ByteArray.empty) (keys.getD i ByteArray.empty) = true) := ⟨by rw [HP.out, HX.out]; exact hls⟩
      by_cases hq : 2 ≤ y ∧ y ≤ 39
      ·have HQ : Aside0 (spec_l01In.f y 2 39 = some true) := ⟨by unfold spec_l01In.f; rw [if_pos (by omega), decide_eq_true (by omega)]⟩
       go_wp2_with fail
       repeat (go_quiet (fail); try go_wp2_with fail)
       ((with_reducible refine (spec_l01In.calls y 2 39 true _ HQ.out).mono ?_); rintro e w9 ⟨rfl, ⟨nd9, rfl⟩⟩)
       go_wp2
       go_loopg [5] i (fun gg s5 wq => ∃ q : Nat, q ≤ i ∧ i - q ≤ gg ∧ s5 = .int .i64 q ∧ Aside0 (∀ p, p < q → kids.getD p 0 ≠ y) ∧ Aside0 (Below w.heap.size w wq) ∧ Aside0 (wq.heap[w.heap.size]? = some (.cells #[.bool false, .slice (some ad) keys.length c0_1, .slice A0_2 vals.length c0_2, .slice (some ak) kids.length c0_3] 68 (0, 0))))
       case atStart => exact ⟨0, Nat.zero_le _, by omega, rfl, ⟨fun p hp => absurd hp (Nat.not_lt_zero _)⟩, ⟨Below.trans HB.out (Below.mono (Drawn0.below ⟨_, rfl⟩) HB.out.size)⟩, ⟨blk_drewN BN.out _⟩⟩
       case round =>
        clear HB BN hb0 hb1 hb2 hb3
        obtain ⟨q, hqi, hg2, rfl, AQ, HB, BN⟩ := hrel
        have hb3 : wr.cell? ⟨w.heap.size, 3, none⟩ = some (.slice (some ak) kids.length c0_3) := (blk_cell BN.out 3).trans rfl
        have hb0 : wr.cell? ⟨w.heap.size, 0, none⟩ = some (.bool false) := (blk_cell BN.out 0).trans rfl
        by_cases hql : q < i
        ·have hqz : (q : Int) < (i : Int) := by omega
         have hik : (i : Int) < (kids.length : Int) := by have := HVE.out; omega
         have hqk : (q : Int) < (kids.length : Int) := by omega
         obtain ⟨ak', e', hcq⟩ := Kd.at_int (Kd.C_below HR3.out HB.out) (q : Int) (by omega) hqk
         obtain rfl : ak = ak' := by injection e'
         obtain ⟨ak', e'', hci⟩ := Kd.at_int (Kd.C_below HR3.out HB.out) (i : Int) (by omega) hik
         obtain rfl : ak = ak' := by injection e''
         rw [Int.toNat_natCast] at hcq hci
         obtain ⟨z, hz⟩ : ∃ z, rd kids (q : Int) = z := ⟨_, rfl⟩
         rw [hz] at hcq
         rw [show rd kids (i : Int) = y from HY.out] at hci
         have HZ : Aside0 (kids.getD q 0 = z) := ⟨hz⟩
         clear hz e' e''
         by_cases hzy : z = y
         ·subst hzy
          have hr : r = false := no_r HF.out (fun h => by have := ((h.2 i hlt).2.2.2 rfl).2.2 q hql; rw [HZ.out, HY.out] at this; exact this rfl)
          subst hr
          go_wp2
          repeat (go_quiet (fail); try go_wp2)
          go_ret
          exact ⟨rfl, Below.trans HB.out (Below.mono (Drawn0.below ⟨_, rfl⟩) HB.out.size)⟩
         ·have hzd : decide (z = y) = false := decide_eq_false hzy
          have hzb : (z == y) = false := beq_eq_false_iff_ne.2 hzy
          have HZY := Aside0.mk hzy
          clear hzy
          go_wp2
          repeat (go_quiet (fail); try go_wp2)
          have HW := Aside0.mk (show wrap64 ((q : Int) + 1) = ((q + 1 : Nat) : Int) by clear hw1 hw2; unfold wrap64; omega)
          go_roundg (i - (q + 1))
          case measure => omega
          case rel => exact ⟨q + 1, by omega, by omega, by first | rfl | exact congrArg (Value.int .i64) HW.out, ⟨fun p hp => by
            by_cases e : p = q
            ·subst e; rw [HZ.out]; exact HZY.out
            ·exact AQ.out p (by omega)⟩, ⟨Below.trans HB.out (Below.mono (Drawn0.below ⟨_, rfl⟩) HB.out.size)⟩, ⟨blk_drewN BN.out _⟩⟩
        ·obtain rfl : q = i := by omega
         have hqz : ¬ (q : Int) < (q : Int) := by omega
         have HK : Aside0 (2 ≤ kids.getD q 0 ∧ kids.getD q 0 ≤ 39 ∧ ∀ p, p < q → kids.getD p 0 ≠ kids.getD q 0) := ⟨by rw [HY.out]; exact ⟨hq.1, hq.2, AQ.out⟩⟩
         clear hqi hg2 hql
         go_wp2
         have HW := Aside0.mk (show wrap64 ((q : Int) + 1) = ((q + 1 : Nat) : Int) by clear hw1 hw2; unfold wrap64; omega)
         go_roundg (keys.length - (q + 1))
         case measure => omega
         case rel => exact ⟨q + 1, by omega, by omega, by first | rfl | exact congrArg (Value.int .i64) HW.out, ⟨fun j hj => by
           by_cases e : j = q
           ·subst e
            exact ⟨by rw [HX.out]; omega, fun _ => HLS.out, (fun q => by cases q), fun _ => HK.out⟩
           ·exact A.out j (by omega)⟩, HB, BN⟩
      ·have HQ : Aside0 (spec_l01In.f y 2 39 = some false) := ⟨by unfold spec_l01In.f; split; exact congrArg some (decide_eq_false (by omega)); first | rfl | (exfalso; omega)⟩
       have hr : r = false := no_r HF.out (fun h => by have := (h.2 i hlt).2.2.2 rfl; rw [HY.out] at this; exact hq ⟨this.1, this.2.1⟩)
       subst hr
       go_wp2_with fail
       repeat (go_quiet (fail); try go_wp2_with fail)
       ((with_reducible refine (spec_l01In.calls y 2 39 false _ HQ.out).mono ?_); rintro e w9 ⟨rfl, ⟨nd9, rfl⟩⟩)
       go_wp2
       go_ret
       exact ⟨rfl, Below.trans HB.out (Below.mono (Drawn0.below ⟨_, rfl⟩) HB.out.size)⟩
  ·have hltz : ¬ (i : Int) < (keys.length : Int) := by omega
   have hr : r = true := HF.out.2 ⟨⟨hx, (fun q => by cases q), fun _ => HVE.out⟩, fun j hj => A.out j (by omega)⟩
   subst hr
   go_wp2
   go_ret
   exact ⟨rfl, HB.out⟩
theorem spec_NodeOk.calls (k : Nat) (a0_0 : Bool) (A0_1 : Option Addr) (c0_1 : Nat) (l0_1 : List ByteArray) (A0_2 : Option Addr) (c0_2 : Nat) (l0_2 : List ByteArray) (A0_3 : Option Addr) (c0_3 : Nat) (l0_3 : List Int) (r : Bool) (w : World) (hr0_1 : Kd.C Kd.string w A0_1 l0_1.length l0_1) (hc0_1 : l0_1.length ≤ c0_1) (hr0_2 : Kd.C Kd.string w A0_2 l0_2.length l0_2) (hc0_2 : l0_2.length ≤ c0_2) (hr0_3 : Kd.C (Kd.int .i64) w A0_3 l0_3.length l0_3) (hc0_3 : l0_3.length ≤ c0_3) (h : spec_NodeOk.f k a0_0 l0_1 l0_2 l0_3 = some r) :
  Calls Try.prog 31 #[.agg #[.bool a0_0, .slice A0_1 l0_1.length c0_1, .slice A0_2 l0_2.length c0_2, .slice A0_3 l0_3.length c0_3]] w fun e w' => e = .returned (.bool r) ∧ Below w.heap.size w w' := by
 obtain rfl := Option.some.inj h
 have hf := specB_iff a0_0 l0_1 l0_2 l0_3
 by_cases hx : 1 ≤ l0_1.length ∧ l0_1.length ≤ 4
 ·cases a0_0 with
  | true =>
   by_cases hv : l0_2.length = l0_1.length
   ·by_cases hk : l0_3.length = 0
    ·exact specNode_leaf A0_1 c0_1 l0_1 A0_2 c0_2 l0_2 A0_3 c0_3 l0_3 _ w hr0_1 hr0_2 hr0_3 hx hv hk hf
    ·exact specNode_leaf_kids A0_1 c0_1 l0_1 A0_2 c0_2 l0_2 A0_3 c0_3 l0_3 _ w hr0_1 hr0_2 hr0_3 hx hv hk hf
   ·exact specNode_leaf_vals A0_1 c0_1 l0_1 A0_2 c0_2 l0_2 A0_3 c0_3 l0_3 _ w hr0_1 hr0_2 hr0_3 hx hv hf
  | false =>
   by_cases hv : l0_3.length = l0_1.length
   ·by_cases hk : l0_2.length = 0
    ·exact specNode_branch A0_1 c0_1 l0_1 A0_2 c0_2 l0_2 A0_3 c0_3 l0_3 _ w hr0_1 hr0_2 hr0_3 hx hv hk hf
    ·exact specNode_branch_vals A0_1 c0_1 l0_1 A0_2 c0_2 l0_2 A0_3 c0_3 l0_3 _ w hr0_1 hr0_2 hr0_3 hx hv hk hf
   ·exact specNode_branch_kids A0_1 c0_1 l0_1 A0_2 c0_2 l0_2 A0_3 c0_3 l0_3 _ w hr0_1 hr0_2 hr0_3 hx hv hf
 ·exact specNode_in a0_0 A0_1 c0_1 l0_1 A0_2 c0_2 l0_2 A0_3 c0_3 l0_3 _ w hr0_1 hr0_2 hr0_3 hx hf
end Go.Proofs.Ytapholbdjccapaa.PFnExactTreeOk
