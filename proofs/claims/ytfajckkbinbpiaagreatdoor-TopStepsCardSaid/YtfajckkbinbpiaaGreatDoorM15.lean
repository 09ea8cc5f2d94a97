/- Walks: the one square: that it may be, and how a box lies to it. -/
import Derived.Test.YtfajckkbinbpiaaGreatDoorM13
import Derived.Lib.QuietBelow
import Derived.LoopTactic
import Derived.Test.YtfajckkbinbpiaaGreatDoorM14
namespace Go.Proofs.YtfajckkbinbpiaaGreatDoor
open Go.RowKit
set_option linter.unusedVariables false
set_option linter.unusedSimpArgs false

set_option maxRecDepth 100000 in
set_option maxHeartbeats 4000000 in
theorem contours_sq (gl cl gp cp : Nat) (w : World) (hS : SqAt w gl gp cp) :
    Calls Tryz.prog 245 #[.slice (some ⟨gl, 0, none⟩) 1 cl] w fun e w' => e = .returned (.bool true) ∧ Below w.heap.size w w' := by
  have HS := Lib.hid hS
  have lgl := hS.lt1
  have lgp := hS.lt2
  obtain ⟨qa0, qb0_0, qb0_1, qb0_2, qb0_3, qb0_4, qb0_5, qb0_6, qb0_7⟩ := hS.cells
  clear hS
  go_enter Tryz.func245, Tryz.ntmps245
  go_wp2_with fail
  refine wp_loop_rounds 2 ?_
  rw [rounds_succ]
  go_wp2_with fail
  refine wp_loop_rounds 5 ?_
  rw [rounds_succ]
  go_wp2_with fail
  refine (near_c _ _ _ (by omega) (by omega) (by omega) (by omega)).mono ?_
  rintro e w1 ⟨rfl, hb⟩
  have hB1 : Below w.heap.size w w1 := Below.trans (by (repeat' (first | (with_reducible exact Below.refl _ _) | (with_reducible assumption) | (with_reducible refine below_drewN ?_ _) | (with_reducible refine Below.drew ?_) | (with_reducible refine Below.alloc ?_ ?_ _) | (with_reducible refine Below.setCell ?_ ?_ _) | omega | (simp; done) | (simp; omega)))) (hb.mono (by first | omega | (simp; done) | (simp; omega)))
  have l1 := hB1.size
  clear hb
  obtain ⟨qa1, qb1_0, qb1_1, qb1_2, qb1_3, qb1_4, qb1_5, qb1_6, qb1_7⟩ := (HS.out.below hB1 (Nat.le_refl _)).cells
  clear qa0 qb0_0 qb0_1 qb0_2 qb0_3 qb0_4 qb0_5 qb0_6 qb0_7
  go_wp2_with fail
  rw [rounds_succ]
  go_wp2_with fail
  refine (near_c _ _ _ (by omega) (by omega) (by omega) (by omega)).mono ?_
  rintro e w2 ⟨rfl, hb⟩
  have hB2 : Below w.heap.size w w2 := Below.trans (by (repeat' (first | (with_reducible exact Below.refl _ _) | (with_reducible assumption) | (with_reducible refine below_drewN ?_ _) | (with_reducible refine Below.drew ?_) | (with_reducible refine Below.alloc ?_ ?_ _) | (with_reducible refine Below.setCell ?_ ?_ _) | omega | (simp; done) | (simp; omega)))) (hb.mono (by first | omega | (simp; done) | (simp; omega)))
  have l2 := hB2.size
  clear hb
  obtain ⟨qa2, qb2_0, qb2_1, qb2_2, qb2_3, qb2_4, qb2_5, qb2_6, qb2_7⟩ := (HS.out.below hB2 (Nat.le_refl _)).cells
  clear qa1 qb1_0 qb1_1 qb1_2 qb1_3 qb1_4 qb1_5 qb1_6 qb1_7
  go_wp2_with fail
  rw [rounds_succ]
  go_wp2_with fail
  refine (near_c _ _ _ (by omega) (by omega) (by omega) (by omega)).mono ?_
  rintro e w3 ⟨rfl, hb⟩
  have hB3 : Below w.heap.size w w3 := Below.trans (by (repeat' (first | (with_reducible exact Below.refl _ _) | (with_reducible assumption) | (with_reducible refine below_drewN ?_ _) | (with_reducible refine Below.drew ?_) | (with_reducible refine Below.alloc ?_ ?_ _) | (with_reducible refine Below.setCell ?_ ?_ _) | omega | (simp; done) | (simp; omega)))) (hb.mono (by first | omega | (simp; done) | (simp; omega)))
  have l3 := hB3.size
  clear hb
  obtain ⟨qa3, qb3_0, qb3_1, qb3_2, qb3_3, qb3_4, qb3_5, qb3_6, qb3_7⟩ := (HS.out.below hB3 (Nat.le_refl _)).cells
  clear qa2 qb2_0 qb2_1 qb2_2 qb2_3 qb2_4 qb2_5 qb2_6 qb2_7
  go_wp2_with fail
  rw [rounds_succ]
  go_wp2_with fail
  refine (near_c _ _ _ (by omega) (by omega) (by omega) (by omega)).mono ?_
  rintro e w4 ⟨rfl, hb⟩
  have hB4 : Below w.heap.size w w4 := Below.trans (by (repeat' (first | (with_reducible exact Below.refl _ _) | (with_reducible assumption) | (with_reducible refine below_drewN ?_ _) | (with_reducible refine Below.drew ?_) | (with_reducible refine Below.alloc ?_ ?_ _) | (with_reducible refine Below.setCell ?_ ?_ _) | omega | (simp; done) | (simp; omega)))) (hb.mono (by first | omega | (simp; done) | (simp; omega)))
  have l4 := hB4.size
  clear hb
  obtain ⟨qa4, qb4_0, qb4_1, qb4_2, qb4_3, qb4_4, qb4_5, qb4_6, qb4_7⟩ := (HS.out.below hB4 (Nat.le_refl _)).cells
  clear qa3 qb3_0 qb3_1 qb3_2 qb3_3 qb3_4 qb3_5 qb3_6 qb3_7
  go_wp2_with fail
  rw [rounds_succ]
  go_wp2_with fail
  rw [rounds_succ]
  go_wp2_with fail
  go_ret
  exact ⟨rfl, by (repeat' (first | (with_reducible exact Below.refl _ _) | (with_reducible assumption) | (with_reducible refine below_drewN ?_ _) | (with_reducible refine Below.drew ?_) | (with_reducible refine Below.alloc ?_ ?_ _) | (with_reducible refine Below.setCell ?_ ?_ _) | omega | (simp; done) | (simp; omega)))⟩
set_option maxRecDepth 100000 in
set_option maxHeartbeats 4000000 in
theorem bare_sq (lv : Value) (p : Option Addr) (n c : Nat) (w : World) (hn : 0 < n) :
    Calls Tryz.prog 242 #[.agg #[.int .i64 2, .int .i64 0, .int .i64 0, .int .i64 0, .int .i64 0, .int .i64 0, .int .i64 0, .int .i64 0, .slice p n c, .slice none 0 0]] w fun e w' => e = .returned (.bool true) ∧ Below w.heap.size w w' := by
  go_enter Tryz.func242, Tryz.ntmps242
  go_wp2
  go_ret
  exact ⟨rfl, by go_grown⟩
set_option maxRecDepth 100000 in
set_option maxHeartbeats 4000000 in
theorem valid_sq (gl cl gp cp p B : Nat) (w : World) (hS : SqAt w gl gp cp) (hc : w.cell? ⟨p, 0, none⟩ = some (.int .i64 1000)) (hf : w.frozen? ⟨p, 0, none⟩ = false) (hB : B ≤ w.heap.size) (hp : B ≤ p) (h1 : gl ≠ p) (h2 : gp ≠ p) :
    Calls Tryz.prog 210 #[.agg #[.int .i64 2, .int .i64 0, .int .i64 0, .int .i64 0, .int .i64 0, .int .i64 0, .int .i64 0, .int .i64 0, .slice (some ⟨gl, 0, none⟩) 1 cl, .slice none 0 0], .int .i64 0, .pointer (some ⟨p, 0, none⟩)] w fun e w' => e = .returned (.bool true) ∧ Below B w w' := by
  have hpl := blk_of_cell hc
  have HS := Lib.hid hS
  clear hS
  go_enter Tryz.func210, Tryz.ntmps210
  go_wp2_with fail
  refine (bare_sq (.int .i64 0) _ _ _ _ (by omega)).mono ?_
  rintro e w1 ⟨rfl, hb⟩
  have hB1 : Below B w w1 := Below.trans (by (repeat' (first | (with_reducible exact Below.refl _ _) | (with_reducible assumption) | (with_reducible refine below_drewN ?_ _) | (with_reducible refine Below.drew ?_) | (with_reducible refine Below.alloc ?_ ?_ _) | (with_reducible refine Below.setCell ?_ ?_ _) | omega | (simp; done) | (simp; omega)))) (hb.mono (by first | omega | (simp; done) | (simp; omega)))
  have k1_0 : Blk w1 (w.heap.size) 62 #[.int .i64 2, .int .i64 0, .int .i64 0, .int .i64 0, .int .i64 0, .int .i64 0, .int .i64 0, .int .i64 0, .slice (some ⟨gl, 0, none⟩) 1 cl, .slice none 0 0] := Blk.below (by (repeat' (first | (with_reducible assumption) | (with_reducible exact Blk.new _ _ _) | (exact Blk.newAt (by first | rfl | (simp; done) | omega)) | (with_reducible refine Blk.drewN ?_ _) | (with_reducible refine Blk.drew ?_) | (with_reducible refine Blk.alloc ?_ _) | (with_reducible apply Blk.set_) | (with_reducible refine Blk.far ?_ ?_ _) | rfl | omega | (simp; done) | (simp; omega)))) hb (by first | omega | (simp; done) | (simp; omega))
  have c1_0 := k1_0.cell
  have f1_0 := k1_0.frozen
  have l1_0 := k1_0.lt
  have l1 := hB1.size
  have s1 : SqAt w1 gl gp cp := by
    first
    | exact SqAt.below ((HS.out.alloc _).far (by simpa using h1) (by simpa using h2) _) hb (by first | (simp; done) | (simp; omega))
    | exact SqAt.below ((HS.out.far (by simpa using h1) (by simpa using h2) _).alloc _) hb (by first | (simp; done) | (simp; omega))
  clear hb
  clear hc hf
  go_wp2_with fail
  refine (contours_sq _ _ _ _ _ s1).mono ?_
  rintro e w2 ⟨rfl, hb⟩
  have hB2 : Below B w w2 := Below.trans (by (repeat' (first | (with_reducible exact Below.refl _ _) | (with_reducible assumption) | (with_reducible refine below_drewN ?_ _) | (with_reducible refine Below.drew ?_) | (with_reducible refine Below.alloc ?_ ?_ _) | (with_reducible refine Below.setCell ?_ ?_ _) | omega | (simp; done) | (simp; omega)))) (hb.mono (by first | omega | (simp; done) | (simp; omega)))
  have k2_0 : Blk w2 (w.heap.size) 62 #[.int .i64 2, .int .i64 0, .int .i64 0, .int .i64 0, .int .i64 0, .int .i64 0, .int .i64 0, .int .i64 0, .slice (some ⟨gl, 0, none⟩) 1 cl, .slice none 0 0] := Blk.below (by (repeat' (first | (with_reducible assumption) | (with_reducible exact Blk.new _ _ _) | (exact Blk.newAt (by first | rfl | (simp; done) | omega)) | (with_reducible refine Blk.drewN ?_ _) | (with_reducible refine Blk.drew ?_) | (with_reducible refine Blk.alloc ?_ _) | (with_reducible apply Blk.set_) | (with_reducible refine Blk.far ?_ ?_ _) | rfl | omega | (simp; done) | (simp; omega)))) hb (by first | omega | (simp; done) | (simp; omega))
  have c2_0 := k2_0.cell
  have f2_0 := k2_0.frozen
  have l2_0 := k2_0.lt
  have l2 := hB2.size
  clear hb
  go_wp2_with fail
  go_ret
  exact ⟨rfl, hB2⟩
set_option maxRecDepth 100000 in
set_option maxHeartbeats 4000000 in
theorem ok_sq (gl cl gp cp : Nat) (w : World) (hS : SqAt w gl gp cp) : Calls Tryz.prog 171 #[.agg #[.int .i64 2, .int .i64 0, .int .i64 0, .int .i64 0, .int .i64 0, .int .i64 0, .int .i64 0, .int .i64 0, .slice (some ⟨gl, 0, none⟩) 1 cl, .slice none 0 0]] w fun e w' => e = .returned (.bool true) ∧ Below w.heap.size w w' := by
  have HS := Lib.hid hS
  have lgl := hS.lt1
  have lgp := hS.lt2
  clear hS
  go_enter Tryz.func171, Tryz.ntmps171
  go_wp2_with fail
  refine (valid_sq _ _ _ _ _ w.heap.size _ ((HS.out.alloc _).alloc _) (by simp) (by simp) (by simp; omega) (by omega) (by omega) (by omega)).mono ?_
  rintro e w1 ⟨rfl, hb⟩
  have hB : Below w.heap.size w w1 := Below.trans (by (repeat' (first | (with_reducible exact Below.refl _ _) | (with_reducible assumption) | (with_reducible refine below_drewN ?_ _) | (with_reducible refine Below.drew ?_) | (with_reducible refine Below.alloc ?_ ?_ _) | (with_reducible refine Below.setCell ?_ ?_ _) | omega | (simp; done) | (simp; omega)))) hb
  go_wp2_with fail
  go_ret
  exact ⟨rfl, hB⟩
set_option maxRecDepth 100000 in
set_option maxHeartbeats 4000000 in
theorem touches_sq (a b c d : Int) (gl cl gp cp : Nat) (w : World) (hS : SqAt w gl gp cp) (a0 : -10000000 ≤ a) (ac : a ≤ c) (c1 : c ≤ 10000000) (b0 : -10000000 ≤ b) (bd : b ≤ d) (d1 : d ≤ 10000000) :
    Calls Tryz.prog 285 #[.agg #[.int .i64 a, .int .i64 b, .int .i64 c, .int .i64 d], .slice (some ⟨gl, 0, none⟩) 1 cl] w fun e w' => e = .returned (.bool false) ∧ Below w.heap.size w w' := by
  have HS := Lib.hid hS
  have lgl := hS.lt1
  have lgp := hS.lt2
  obtain ⟨qa0, qb0_0, qb0_1, qb0_2, qb0_3, qb0_4, qb0_5, qb0_6, qb0_7⟩ := hS.cells
  clear hS
  go_enter Tryz.func285, Tryz.ntmps285
  go_wp2_with fail
  refine wp_loop_rounds 2 ?_
  rw [rounds_succ]
  go_wp2_with fail
  refine wp_loop_rounds 5 ?_
  rw [rounds_succ]
  go_wp2_with fail
  obtain ⟨v0, ev0⟩ : ∃ v, (w.alloc (.cells #[.int .i64 a, .int .i64 b, .int .i64 c, .int .i64 d] 70)).alloc (.cells #[.int .i64 (-20000000), .int .i64 (-20000000)] 58) = v := ⟨_, rfl⟩
  have bv0 : Below w.heap.size w v0 := by rw [← ev0]; (repeat' (first | (with_reducible exact Below.refl _ _) | (with_reducible assumption) | (with_reducible refine below_drewN ?_ _) | (with_reducible refine Below.drew ?_) | (with_reducible refine Below.alloc ?_ ?_ _) | (with_reducible refine Below.setCell ?_ ?_ _) | omega | (simp; done) | (simp; omega)))
  have sv0 := HS.out.below bv0 (Nat.le_refl _)
  have kv0_0 : Blk v0 (w.heap.size) 70 #[.int .i64 a, .int .i64 b, .int .i64 c, .int .i64 d] := by rw [← ev0]; (repeat' (first | (with_reducible assumption) | (with_reducible exact Blk.new _ _ _) | (exact Blk.newAt (by first | rfl | (simp; done) | omega)) | (with_reducible refine Blk.drewN ?_ _) | (with_reducible refine Blk.drew ?_) | (with_reducible refine Blk.alloc ?_ _) | (with_reducible apply Blk.set_) | (with_reducible refine Blk.far ?_ ?_ _) | rfl | omega | (simp; done) | (simp; omega)))
  have lv0_0 := kv0_0.lt
  have kv0_1 : Blk v0 (w.heap.size + 1) 58 #[.int .i64 (-20000000), .int .i64 (-20000000)] := by rw [← ev0]; (repeat' (first | (with_reducible assumption) | (with_reducible exact Blk.new _ _ _) | (exact Blk.newAt (by first | rfl | (simp; done) | omega)) | (with_reducible refine Blk.drewN ?_ _) | (with_reducible refine Blk.drew ?_) | (with_reducible refine Blk.alloc ?_ _) | (with_reducible apply Blk.set_) | (with_reducible refine Blk.far ?_ ?_ _) | rfl | omega | (simp; done) | (simp; omega)))
  have lv0_1 := kv0_1.lt
  rw [ev0]
  have y0_0_0 := cell_regrown (show v0.cell? ⟨w.heap.size, 0, none⟩ = some (.int .i64 a) from kv0_0.cell 0)
  have y0_0_1 := cell_regrown (show v0.cell? ⟨w.heap.size, 1, none⟩ = some (.int .i64 b) from kv0_0.cell 1)
  have y0_0_2 := cell_regrown (show v0.cell? ⟨w.heap.size, 2, none⟩ = some (.int .i64 c) from kv0_0.cell 2)
  have y0_0_3 := cell_regrown (show v0.cell? ⟨w.heap.size, 3, none⟩ = some (.int .i64 d) from kv0_0.cell 3)
  have y0_1_0 := cell_regrown (show v0.cell? ⟨w.heap.size + 1, 0, none⟩ = some (.int .i64 (-20000000)) from kv0_1.cell 0)
  have y0_1_1 := cell_regrown (show v0.cell? ⟨w.heap.size + 1, 1, none⟩ = some (.int .i64 (-20000000)) from kv0_1.cell 1)
  have z0_2 := cell_regrown (sv0.cells.2.2.2.1)
  have z0_3 := cell_regrown (sv0.cells.2.2.2.2.1)
  have m0 : ∀ d' os, Calls Tryz.prog 290 #[.agg #[.int .i64 a, .int .i64 b, .int .i64 c, .int .i64 d], .agg #[.int .i64 (-20000000), .int .i64 (-20000000)], .agg #[.int .i64 20000000, .int .i64 (-20000000)]] (Go.Sort.grow (redrawn v0 d') os) fun e w'' => e = .returned (.bool false) ∧ ∃ p : Regrown, w'' = Go.Sort.grow (redrawn v0 p.d) p.os := fun d' os => Calls.regrown_of (meets_no0 _ _ _ _ _ a0 ac c1 b0 bd d1)
  have M0 := Lib.hid m0
  have KS0 := Lib.hid (And.intro sv0 (And.intro kv0_0 trivial))
  clear m0 ev0 sv0 kv0_0 kv0_1
  refine wp_region_quiet_below (by kernel_rfl) (by kernel_rfl) ?_
  repeat (first | go_big_quiet_step (with_reducible exact M0.out _ _) | quiet_step (with_reducible exact M0.out _ _))
  refine wpQuiet_nil ?_
  intro w1 hw'
  have hb : Below v0.heap.size v0 w1 := by obtain ⟨p, rfl⟩ := hw'; exact below_regrown _ _ _
  have hB1 : Below w.heap.size w w1 := bv0.trans (hb.mono bv0.size)
  have k1_0 := KS0.out.2.1.below hb (Nat.lt_of_lt_of_le (by omega) (Nat.le_refl _))
  have c1_0 := k1_0.cell
  have l1_0 := k1_0.lt
  have l1 := hB1.size
  obtain ⟨qa1, qb1_0, qb1_1, qb1_2, qb1_3, qb1_4, qb1_5, qb1_6, qb1_7⟩ := (HS.out.below hB1 (Nat.le_refl _)).cells
  clear hw' hb y0_0_0 y0_0_1 y0_0_2 y0_0_3 y0_1_0 y0_1_1 z0_2 z0_3 M0 KS0
  go_wp2_with fail
  rw [rounds_succ]
  go_wp2_with fail
  obtain ⟨v1, ev1⟩ : ∃ v, (w1).alloc (.cells #[.int .i64 20000000, .int .i64 (-20000000)] 58) = v := ⟨_, rfl⟩
  have bv1 : Below w.heap.size w v1 := by rw [← ev1]; (repeat' (first | (with_reducible exact Below.refl _ _) | (with_reducible assumption) | (with_reducible refine below_drewN ?_ _) | (with_reducible refine Below.drew ?_) | (with_reducible refine Below.alloc ?_ ?_ _) | (with_reducible refine Below.setCell ?_ ?_ _) | omega | (simp; done) | (simp; omega)))
  have sv1 := HS.out.below bv1 (Nat.le_refl _)
  have kv1_0 : Blk v1 (w.heap.size) 70 #[.int .i64 a, .int .i64 b, .int .i64 c, .int .i64 d] := by rw [← ev1]; (repeat' (first | (with_reducible assumption) | (with_reducible exact Blk.new _ _ _) | (exact Blk.newAt (by first | rfl | (simp; done) | omega)) | (with_reducible refine Blk.drewN ?_ _) | (with_reducible refine Blk.drew ?_) | (with_reducible refine Blk.alloc ?_ _) | (with_reducible apply Blk.set_) | (with_reducible refine Blk.far ?_ ?_ _) | rfl | omega | (simp; done) | (simp; omega)))
  have lv1_0 := kv1_0.lt
  have kv1_1 : Blk v1 (w1.heap.size) 58 #[.int .i64 20000000, .int .i64 (-20000000)] := by rw [← ev1]; (repeat' (first | (with_reducible assumption) | (with_reducible exact Blk.new _ _ _) | (exact Blk.newAt (by first | rfl | (simp; done) | omega)) | (with_reducible refine Blk.drewN ?_ _) | (with_reducible refine Blk.drew ?_) | (with_reducible refine Blk.alloc ?_ _) | (with_reducible apply Blk.set_) | (with_reducible refine Blk.far ?_ ?_ _) | rfl | omega | (simp; done) | (simp; omega)))
  have lv1_1 := kv1_1.lt
  rw [ev1]
  have y1_0_0 := cell_regrown (show v1.cell? ⟨w.heap.size, 0, none⟩ = some (.int .i64 a) from kv1_0.cell 0)
  have y1_0_1 := cell_regrown (show v1.cell? ⟨w.heap.size, 1, none⟩ = some (.int .i64 b) from kv1_0.cell 1)
  have y1_0_2 := cell_regrown (show v1.cell? ⟨w.heap.size, 2, none⟩ = some (.int .i64 c) from kv1_0.cell 2)
  have y1_0_3 := cell_regrown (show v1.cell? ⟨w.heap.size, 3, none⟩ = some (.int .i64 d) from kv1_0.cell 3)
  have y1_1_0 := cell_regrown (show v1.cell? ⟨w1.heap.size, 0, none⟩ = some (.int .i64 20000000) from kv1_1.cell 0)
  have y1_1_1 := cell_regrown (show v1.cell? ⟨w1.heap.size, 1, none⟩ = some (.int .i64 (-20000000)) from kv1_1.cell 1)
  have z1_4 := cell_regrown (sv1.cells.2.2.2.2.2.1)
  have z1_5 := cell_regrown (sv1.cells.2.2.2.2.2.2.1)
  have m1 : ∀ d' os, Calls Tryz.prog 290 #[.agg #[.int .i64 a, .int .i64 b, .int .i64 c, .int .i64 d], .agg #[.int .i64 20000000, .int .i64 (-20000000)], .agg #[.int .i64 20000000, .int .i64 20000000]] (Go.Sort.grow (redrawn v1 d') os) fun e w'' => e = .returned (.bool false) ∧ ∃ p : Regrown, w'' = Go.Sort.grow (redrawn v1 p.d) p.os := fun d' os => Calls.regrown_of (meets_no1 _ _ _ _ _ a0 ac c1 b0 bd d1)
  have M1 := Lib.hid m1
  have KS1 := Lib.hid (And.intro sv1 (And.intro kv1_0 trivial))
  clear m1 ev1 sv1 kv1_0 kv1_1
  refine wp_region_quiet_below (by kernel_rfl) (by kernel_rfl) ?_
  repeat (first | go_big_quiet_step (with_reducible exact M1.out _ _) | quiet_step (with_reducible exact M1.out _ _))
  refine wpQuiet_nil ?_
  intro w2 hw'
  have hb : Below v1.heap.size v1 w2 := by obtain ⟨p, rfl⟩ := hw'; exact below_regrown _ _ _
  have hB2 : Below w.heap.size w w2 := bv1.trans (hb.mono bv1.size)
  have k2_0 := KS1.out.2.1.below hb (Nat.lt_of_lt_of_le (by omega) (Nat.le_refl _))
  have c2_0 := k2_0.cell
  have l2_0 := k2_0.lt
  have l2 := hB2.size
  obtain ⟨qa2, qb2_0, qb2_1, qb2_2, qb2_3, qb2_4, qb2_5, qb2_6, qb2_7⟩ := (HS.out.below hB2 (Nat.le_refl _)).cells
  clear hw' hb y1_0_0 y1_0_1 y1_0_2 y1_0_3 y1_1_0 y1_1_1 z1_4 z1_5 M1 KS1
  clear k1_0 c1_0
  go_wp2_with fail
  rw [rounds_succ]
  go_wp2_with fail
  obtain ⟨v2, ev2⟩ : ∃ v, (w2).alloc (.cells #[.int .i64 20000000, .int .i64 20000000] 58) = v := ⟨_, rfl⟩
  have bv2 : Below w.heap.size w v2 := by rw [← ev2]; (repeat' (first | (with_reducible exact Below.refl _ _) | (with_reducible assumption) | (with_reducible refine below_drewN ?_ _) | (with_reducible refine Below.drew ?_) | (with_reducible refine Below.alloc ?_ ?_ _) | (with_reducible refine Below.setCell ?_ ?_ _) | omega | (simp; done) | (simp; omega)))
  have sv2 := HS.out.below bv2 (Nat.le_refl _)
  have kv2_0 : Blk v2 (w.heap.size) 70 #[.int .i64 a, .int .i64 b, .int .i64 c, .int .i64 d] := by rw [← ev2]; (repeat' (first | (with_reducible assumption) | (with_reducible exact Blk.new _ _ _) | (exact Blk.newAt (by first | rfl | (simp; done) | omega)) | (with_reducible refine Blk.drewN ?_ _) | (with_reducible refine Blk.drew ?_) | (with_reducible refine Blk.alloc ?_ _) | (with_reducible apply Blk.set_) | (with_reducible refine Blk.far ?_ ?_ _) | rfl | omega | (simp; done) | (simp; omega)))
  have lv2_0 := kv2_0.lt
  have kv2_1 : Blk v2 (w2.heap.size) 58 #[.int .i64 20000000, .int .i64 20000000] := by rw [← ev2]; (repeat' (first | (with_reducible assumption) | (with_reducible exact Blk.new _ _ _) | (exact Blk.newAt (by first | rfl | (simp; done) | omega)) | (with_reducible refine Blk.drewN ?_ _) | (with_reducible refine Blk.drew ?_) | (with_reducible refine Blk.alloc ?_ _) | (with_reducible apply Blk.set_) | (with_reducible refine Blk.far ?_ ?_ _) | rfl | omega | (simp; done) | (simp; omega)))
  have lv2_1 := kv2_1.lt
  rw [ev2]
  have y2_0_0 := cell_regrown (show v2.cell? ⟨w.heap.size, 0, none⟩ = some (.int .i64 a) from kv2_0.cell 0)
  have y2_0_1 := cell_regrown (show v2.cell? ⟨w.heap.size, 1, none⟩ = some (.int .i64 b) from kv2_0.cell 1)
  have y2_0_2 := cell_regrown (show v2.cell? ⟨w.heap.size, 2, none⟩ = some (.int .i64 c) from kv2_0.cell 2)
  have y2_0_3 := cell_regrown (show v2.cell? ⟨w.heap.size, 3, none⟩ = some (.int .i64 d) from kv2_0.cell 3)
  have y2_1_0 := cell_regrown (show v2.cell? ⟨w2.heap.size, 0, none⟩ = some (.int .i64 20000000) from kv2_1.cell 0)
  have y2_1_1 := cell_regrown (show v2.cell? ⟨w2.heap.size, 1, none⟩ = some (.int .i64 20000000) from kv2_1.cell 1)
  have z2_6 := cell_regrown (sv2.cells.2.2.2.2.2.2.2.1)
  have z2_7 := cell_regrown (sv2.cells.2.2.2.2.2.2.2.2)
  have m2 : ∀ d' os, Calls Tryz.prog 290 #[.agg #[.int .i64 a, .int .i64 b, .int .i64 c, .int .i64 d], .agg #[.int .i64 20000000, .int .i64 20000000], .agg #[.int .i64 (-20000000), .int .i64 20000000]] (Go.Sort.grow (redrawn v2 d') os) fun e w'' => e = .returned (.bool false) ∧ ∃ p : Regrown, w'' = Go.Sort.grow (redrawn v2 p.d) p.os := fun d' os => Calls.regrown_of (meets_no2 _ _ _ _ _ a0 ac c1 b0 bd d1)
  have M2 := Lib.hid m2
  have KS2 := Lib.hid (And.intro sv2 (And.intro kv2_0 trivial))
  clear m2 ev2 sv2 kv2_0 kv2_1
  refine wp_region_quiet_below (by kernel_rfl) (by kernel_rfl) ?_
  repeat (first | go_big_quiet_step (with_reducible exact M2.out _ _) | quiet_step (with_reducible exact M2.out _ _))
  refine wpQuiet_nil ?_
  intro w3 hw'
  have hb : Below v2.heap.size v2 w3 := by obtain ⟨p, rfl⟩ := hw'; exact below_regrown _ _ _
  have hB3 : Below w.heap.size w w3 := bv2.trans (hb.mono bv2.size)
  have k3_0 := KS2.out.2.1.below hb (Nat.lt_of_lt_of_le (by omega) (Nat.le_refl _))
  have c3_0 := k3_0.cell
  have l3_0 := k3_0.lt
  have l3 := hB3.size
  obtain ⟨qa3, qb3_0, qb3_1, qb3_2, qb3_3, qb3_4, qb3_5, qb3_6, qb3_7⟩ := (HS.out.below hB3 (Nat.le_refl _)).cells
  clear hw' hb y2_0_0 y2_0_1 y2_0_2 y2_0_3 y2_1_0 y2_1_1 z2_6 z2_7 M2 KS2
  clear k2_0 c2_0
  go_wp2_with fail
  rw [rounds_succ]
  go_wp2_with fail
  obtain ⟨v3, ev3⟩ : ∃ v, (w3).alloc (.cells #[.int .i64 (-20000000), .int .i64 20000000] 58) = v := ⟨_, rfl⟩
  have bv3 : Below w.heap.size w v3 := by rw [← ev3]; (repeat' (first | (with_reducible exact Below.refl _ _) | (with_reducible assumption) | (with_reducible refine below_drewN ?_ _) | (with_reducible refine Below.drew ?_) | (with_reducible refine Below.alloc ?_ ?_ _) | (with_reducible refine Below.setCell ?_ ?_ _) | omega | (simp; done) | (simp; omega)))
  have sv3 := HS.out.below bv3 (Nat.le_refl _)
  have kv3_0 : Blk v3 (w.heap.size) 70 #[.int .i64 a, .int .i64 b, .int .i64 c, .int .i64 d] := by rw [← ev3]; (repeat' (first | (with_reducible assumption) | (with_reducible exact Blk.new _ _ _) | (exact Blk.newAt (by first | rfl | (simp; done) | omega)) | (with_reducible refine Blk.drewN ?_ _) | (with_reducible refine Blk.drew ?_) | (with_reducible refine Blk.alloc ?_ _) | (with_reducible apply Blk.set_) | (with_reducible refine Blk.far ?_ ?_ _) | rfl | omega | (simp; done) | (simp; omega)))
  have lv3_0 := kv3_0.lt
  have kv3_1 : Blk v3 (w3.heap.size) 58 #[.int .i64 (-20000000), .int .i64 20000000] := by rw [← ev3]; (repeat' (first | (with_reducible assumption) | (with_reducible exact Blk.new _ _ _) | (exact Blk.newAt (by first | rfl | (simp; done) | omega)) | (with_reducible refine Blk.drewN ?_ _) | (with_reducible refine Blk.drew ?_) | (with_reducible refine Blk.alloc ?_ _) | (with_reducible apply Blk.set_) | (with_reducible refine Blk.far ?_ ?_ _) | rfl | omega | (simp; done) | (simp; omega)))
  have lv3_1 := kv3_1.lt
  rw [ev3]
  have y3_0_0 := cell_regrown (show v3.cell? ⟨w.heap.size, 0, none⟩ = some (.int .i64 a) from kv3_0.cell 0)
  have y3_0_1 := cell_regrown (show v3.cell? ⟨w.heap.size, 1, none⟩ = some (.int .i64 b) from kv3_0.cell 1)
  have y3_0_2 := cell_regrown (show v3.cell? ⟨w.heap.size, 2, none⟩ = some (.int .i64 c) from kv3_0.cell 2)
  have y3_0_3 := cell_regrown (show v3.cell? ⟨w.heap.size, 3, none⟩ = some (.int .i64 d) from kv3_0.cell 3)
  have y3_1_0 := cell_regrown (show v3.cell? ⟨w3.heap.size, 0, none⟩ = some (.int .i64 (-20000000)) from kv3_1.cell 0)
  have y3_1_1 := cell_regrown (show v3.cell? ⟨w3.heap.size, 1, none⟩ = some (.int .i64 20000000) from kv3_1.cell 1)
  have z3_0 := cell_regrown (sv3.cells.2.1)
  have z3_1 := cell_regrown (sv3.cells.2.2.1)
  have m3 : ∀ d' os, Calls Tryz.prog 290 #[.agg #[.int .i64 a, .int .i64 b, .int .i64 c, .int .i64 d], .agg #[.int .i64 (-20000000), .int .i64 20000000], .agg #[.int .i64 (-20000000), .int .i64 (-20000000)]] (Go.Sort.grow (redrawn v3 d') os) fun e w'' => e = .returned (.bool false) ∧ ∃ p : Regrown, w'' = Go.Sort.grow (redrawn v3 p.d) p.os := fun d' os => Calls.regrown_of (meets_no3 _ _ _ _ _ a0 ac c1 b0 bd d1)
  have M3 := Lib.hid m3
  have KS3 := Lib.hid (And.intro sv3 (And.intro kv3_0 trivial))
  clear m3 ev3 sv3 kv3_0 kv3_1
  refine wp_region_quiet_below (by kernel_rfl) (by kernel_rfl) ?_
  repeat (first | go_big_quiet_step (with_reducible exact M3.out _ _) | quiet_step (with_reducible exact M3.out _ _))
  refine wpQuiet_nil ?_
  intro w4 hw'
  have hb : Below v3.heap.size v3 w4 := by obtain ⟨p, rfl⟩ := hw'; exact below_regrown _ _ _
  have hB4 : Below w.heap.size w w4 := bv3.trans (hb.mono bv3.size)
  have k4_0 := KS3.out.2.1.below hb (Nat.lt_of_lt_of_le (by omega) (Nat.le_refl _))
  have c4_0 := k4_0.cell
  have l4_0 := k4_0.lt
  have l4 := hB4.size
  obtain ⟨qa4, qb4_0, qb4_1, qb4_2, qb4_3, qb4_4, qb4_5, qb4_6, qb4_7⟩ := (HS.out.below hB4 (Nat.le_refl _)).cells
  clear hw' hb y3_0_0 y3_0_1 y3_0_2 y3_0_3 y3_1_0 y3_1_1 z3_0 z3_1 M3 KS3
  clear k3_0 c3_0
  go_wp2_with fail
  rw [rounds_succ]
  go_wp2_with fail
  rw [rounds_succ]
  go_wp2_with fail
  go_ret
  exact ⟨rfl, by (repeat' (first | (with_reducible exact Below.refl _ _) | (with_reducible assumption) | (with_reducible refine below_drewN ?_ _) | (with_reducible refine Below.drew ?_) | (with_reducible refine Below.alloc ?_ ?_ _) | (with_reducible refine Below.setCell ?_ ?_ _) | omega | (simp; done) | (simp; omega)))⟩
set_option maxRecDepth 100000 in
set_option maxHeartbeats 4000000 in
theorem odd_sq (x y : Int) (gl cl gp cp : Nat) (w : World) (hS : SqAt w gl gp cp) (x0 : -10000000 ≤ x) (x1 : x ≤ 10000000) (y0 : -10000000 ≤ y) (y1 : y ≤ 10000000) :
    Calls Tryz.prog 286 #[.agg #[.int .i64 x, .int .i64 y], .slice (some ⟨gl, 0, none⟩) 1 cl] w fun e w' => e = .returned (.bool true) ∧ Below w.heap.size w w' := by
  have HS := Lib.hid hS
  have lgl := hS.lt1
  have lgp := hS.lt2
  obtain ⟨qa0, qb0_0, qb0_1, qb0_2, qb0_3, qb0_4, qb0_5, qb0_6, qb0_7⟩ := hS.cells
  clear hS
  go_enter Tryz.func286, Tryz.ntmps286
  go_wp2_with fail
  refine wp_loop_rounds 2 ?_
  rw [rounds_succ]
  go_wp2_with fail
  refine wp_loop_rounds 5 ?_
  rw [rounds_succ]
  go_wp2_with fail
  obtain ⟨v0, ev0⟩ : ∃ v, (w.alloc (.cells #[.int .i64 x, .int .i64 y] 58)).alloc (.cells #[.int .i64 (-20000000), .int .i64 (-20000000)] 58) = v := ⟨_, rfl⟩
  have bv0 : Below w.heap.size w v0 := by rw [← ev0]; (repeat' (first | (with_reducible exact Below.refl _ _) | (with_reducible assumption) | (with_reducible refine below_drewN ?_ _) | (with_reducible refine Below.drew ?_) | (with_reducible refine Below.alloc ?_ ?_ _) | (with_reducible refine Below.setCell ?_ ?_ _) | omega | (simp; done) | (simp; omega)))
  have sv0 := HS.out.below bv0 (Nat.le_refl _)
  have kv0_0 : Blk v0 (w.heap.size) 58 #[.int .i64 x, .int .i64 y] := by rw [← ev0]; (repeat' (first | (with_reducible assumption) | (with_reducible exact Blk.new _ _ _) | (exact Blk.newAt (by first | rfl | (simp; done) | omega)) | (with_reducible refine Blk.drewN ?_ _) | (with_reducible refine Blk.drew ?_) | (with_reducible refine Blk.alloc ?_ _) | (with_reducible apply Blk.set_) | (with_reducible refine Blk.far ?_ ?_ _) | rfl | omega | (simp; done) | (simp; omega)))
  have lv0_0 := kv0_0.lt
  have kv0_1 : Blk v0 (w.heap.size + 1) 58 #[.int .i64 (-20000000), .int .i64 (-20000000)] := by rw [← ev0]; (repeat' (first | (with_reducible assumption) | (with_reducible exact Blk.new _ _ _) | (exact Blk.newAt (by first | rfl | (simp; done) | omega)) | (with_reducible refine Blk.drewN ?_ _) | (with_reducible refine Blk.drew ?_) | (with_reducible refine Blk.alloc ?_ _) | (with_reducible apply Blk.set_) | (with_reducible refine Blk.far ?_ ?_ _) | rfl | omega | (simp; done) | (simp; omega)))
  have lv0_1 := kv0_1.lt
  rw [ev0]
  have y0_0_0 := cell_regrown (show v0.cell? ⟨w.heap.size, 0, none⟩ = some (.int .i64 x) from kv0_0.cell 0)
  have y0_0_1 := cell_regrown (show v0.cell? ⟨w.heap.size, 1, none⟩ = some (.int .i64 y) from kv0_0.cell 1)
  have y0_1_0 := cell_regrown (show v0.cell? ⟨w.heap.size + 1, 0, none⟩ = some (.int .i64 (-20000000)) from kv0_1.cell 0)
  have y0_1_1 := cell_regrown (show v0.cell? ⟨w.heap.size + 1, 1, none⟩ = some (.int .i64 (-20000000)) from kv0_1.cell 1)
  have z0_2 := cell_regrown (sv0.cells.2.2.2.1)
  have z0_3 := cell_regrown (sv0.cells.2.2.2.2.1)
  have m0 : ∀ d' os, Calls Tryz.prog 337 #[.agg #[.int .i64 x, .int .i64 y], .agg #[.int .i64 (-20000000), .int .i64 (-20000000)], .agg #[.int .i64 20000000, .int .i64 (-20000000)]] (Go.Sort.grow (redrawn v0 d') os) fun e w'' => e = .returned (.bool false) ∧ ∃ p : Regrown, w'' = Go.Sort.grow (redrawn v0 p.d) p.os := fun d' os => Calls.regrown_of (crosses_0 _ _ _ x0 x1 y0 y1)
  have M0 := Lib.hid m0
  have KS0 := Lib.hid (And.intro sv0 (And.intro kv0_0 trivial))
  clear m0 ev0 sv0 kv0_0 kv0_1
  refine wp_region_quiet_below (by kernel_rfl) (by kernel_rfl) ?_
  repeat (first | go_big_quiet_step (with_reducible exact M0.out _ _) | quiet_step (with_reducible exact M0.out _ _))
  refine wpQuiet_nil ?_
  intro w1 hw'
  have hb : Below v0.heap.size v0 w1 := by obtain ⟨p, rfl⟩ := hw'; exact below_regrown _ _ _
  have hB1 : Below w.heap.size w w1 := bv0.trans (hb.mono bv0.size)
  have k1_0 := KS0.out.2.1.below hb (Nat.lt_of_lt_of_le (by omega) (Nat.le_refl _))
  have c1_0 := k1_0.cell
  have l1_0 := k1_0.lt
  have l1 := hB1.size
  obtain ⟨qa1, qb1_0, qb1_1, qb1_2, qb1_3, qb1_4, qb1_5, qb1_6, qb1_7⟩ := (HS.out.below hB1 (Nat.le_refl _)).cells
  clear hw' hb y0_0_0 y0_0_1 y0_1_0 y0_1_1 z0_2 z0_3 M0 KS0
  go_wp2_with fail
  rw [rounds_succ]
  go_wp2_with fail
  obtain ⟨v1, ev1⟩ : ∃ v, (w1).alloc (.cells #[.int .i64 20000000, .int .i64 (-20000000)] 58) = v := ⟨_, rfl⟩
  have bv1 : Below w.heap.size w v1 := by rw [← ev1]; (repeat' (first | (with_reducible exact Below.refl _ _) | (with_reducible assumption) | (with_reducible refine below_drewN ?_ _) | (with_reducible refine Below.drew ?_) | (with_reducible refine Below.alloc ?_ ?_ _) | (with_reducible refine Below.setCell ?_ ?_ _) | omega | (simp; done) | (simp; omega)))
  have sv1 := HS.out.below bv1 (Nat.le_refl _)
  have kv1_0 : Blk v1 (w.heap.size) 58 #[.int .i64 x, .int .i64 y] := by rw [← ev1]; (repeat' (first | (with_reducible assumption) | (with_reducible exact Blk.new _ _ _) | (exact Blk.newAt (by first | rfl | (simp; done) | omega)) | (with_reducible refine Blk.drewN ?_ _) | (with_reducible refine Blk.drew ?_) | (with_reducible refine Blk.alloc ?_ _) | (with_reducible apply Blk.set_) | (with_reducible refine Blk.far ?_ ?_ _) | rfl | omega | (simp; done) | (simp; omega)))
  have lv1_0 := kv1_0.lt
  have kv1_1 : Blk v1 (w1.heap.size) 58 #[.int .i64 20000000, .int .i64 (-20000000)] := by rw [← ev1]; (repeat' (first | (with_reducible assumption) | (with_reducible exact Blk.new _ _ _) | (exact Blk.newAt (by first | rfl | (simp; done) | omega)) | (with_reducible refine Blk.drewN ?_ _) | (with_reducible refine Blk.drew ?_) | (with_reducible refine Blk.alloc ?_ _) | (with_reducible apply Blk.set_) | (with_reducible refine Blk.far ?_ ?_ _) | rfl | omega | (simp; done) | (simp; omega)))
  have lv1_1 := kv1_1.lt
  rw [ev1]
  have y1_0_0 := cell_regrown (show v1.cell? ⟨w.heap.size, 0, none⟩ = some (.int .i64 x) from kv1_0.cell 0)
  have y1_0_1 := cell_regrown (show v1.cell? ⟨w.heap.size, 1, none⟩ = some (.int .i64 y) from kv1_0.cell 1)
  have y1_1_0 := cell_regrown (show v1.cell? ⟨w1.heap.size, 0, none⟩ = some (.int .i64 20000000) from kv1_1.cell 0)
  have y1_1_1 := cell_regrown (show v1.cell? ⟨w1.heap.size, 1, none⟩ = some (.int .i64 (-20000000)) from kv1_1.cell 1)
  have z1_4 := cell_regrown (sv1.cells.2.2.2.2.2.1)
  have z1_5 := cell_regrown (sv1.cells.2.2.2.2.2.2.1)
  have m1 : ∀ d' os, Calls Tryz.prog 337 #[.agg #[.int .i64 x, .int .i64 y], .agg #[.int .i64 20000000, .int .i64 (-20000000)], .agg #[.int .i64 20000000, .int .i64 20000000]] (Go.Sort.grow (redrawn v1 d') os) fun e w'' => e = .returned (.bool true) ∧ ∃ p : Regrown, w'' = Go.Sort.grow (redrawn v1 p.d) p.os := fun d' os => Calls.regrown_of (crosses_1 _ _ _ x0 x1 y0 y1)
  have M1 := Lib.hid m1
  have KS1 := Lib.hid (And.intro sv1 (And.intro kv1_0 trivial))
  clear m1 ev1 sv1 kv1_0 kv1_1
  refine wp_region_quiet_below (by kernel_rfl) (by kernel_rfl) ?_
  repeat (first | go_big_quiet_step (with_reducible exact M1.out _ _) | quiet_step (with_reducible exact M1.out _ _))
  refine wpQuiet_nil ?_
  intro w2 hw'
  have hb : Below v1.heap.size v1 w2 := by obtain ⟨p, rfl⟩ := hw'; exact below_regrown _ _ _
  have hB2 : Below w.heap.size w w2 := bv1.trans (hb.mono bv1.size)
  have k2_0 := KS1.out.2.1.below hb (Nat.lt_of_lt_of_le (by omega) (Nat.le_refl _))
  have c2_0 := k2_0.cell
  have l2_0 := k2_0.lt
  have l2 := hB2.size
  obtain ⟨qa2, qb2_0, qb2_1, qb2_2, qb2_3, qb2_4, qb2_5, qb2_6, qb2_7⟩ := (HS.out.below hB2 (Nat.le_refl _)).cells
  clear hw' hb y1_0_0 y1_0_1 y1_1_0 y1_1_1 z1_4 z1_5 M1 KS1
  clear k1_0 c1_0
  go_wp2_with fail
  rw [rounds_succ]
  go_wp2_with fail
  obtain ⟨v2, ev2⟩ : ∃ v, (w2).alloc (.cells #[.int .i64 20000000, .int .i64 20000000] 58) = v := ⟨_, rfl⟩
  have bv2 : Below w.heap.size w v2 := by rw [← ev2]; (repeat' (first | (with_reducible exact Below.refl _ _) | (with_reducible assumption) | (with_reducible refine below_drewN ?_ _) | (with_reducible refine Below.drew ?_) | (with_reducible refine Below.alloc ?_ ?_ _) | (with_reducible refine Below.setCell ?_ ?_ _) | omega | (simp; done) | (simp; omega)))
  have sv2 := HS.out.below bv2 (Nat.le_refl _)
  have kv2_0 : Blk v2 (w.heap.size) 58 #[.int .i64 x, .int .i64 y] := by rw [← ev2]; (repeat' (first | (with_reducible assumption) | (with_reducible exact Blk.new _ _ _) | (exact Blk.newAt (by first | rfl | (simp; done) | omega)) | (with_reducible refine Blk.drewN ?_ _) | (with_reducible refine Blk.drew ?_) | (with_reducible refine Blk.alloc ?_ _) | (with_reducible apply Blk.set_) | (with_reducible refine Blk.far ?_ ?_ _) | rfl | omega | (simp; done) | (simp; omega)))
  have lv2_0 := kv2_0.lt
  have kv2_1 : Blk v2 (w2.heap.size) 58 #[.int .i64 20000000, .int .i64 20000000] := by rw [← ev2]; (repeat' (first | (with_reducible assumption) | (with_reducible exact Blk.new _ _ _) | (exact Blk.newAt (by first | rfl | (simp; done) | omega)) | (with_reducible refine Blk.drewN ?_ _) | (with_reducible refine Blk.drew ?_) | (with_reducible refine Blk.alloc ?_ _) | (with_reducible apply Blk.set_) | (with_reducible refine Blk.far ?_ ?_ _) | rfl | omega | (simp; done) | (simp; omega)))
  have lv2_1 := kv2_1.lt
  rw [ev2]
  have y2_0_0 := cell_regrown (show v2.cell? ⟨w.heap.size, 0, none⟩ = some (.int .i64 x) from kv2_0.cell 0)
  have y2_0_1 := cell_regrown (show v2.cell? ⟨w.heap.size, 1, none⟩ = some (.int .i64 y) from kv2_0.cell 1)
  have y2_1_0 := cell_regrown (show v2.cell? ⟨w2.heap.size, 0, none⟩ = some (.int .i64 20000000) from kv2_1.cell 0)
  have y2_1_1 := cell_regrown (show v2.cell? ⟨w2.heap.size, 1, none⟩ = some (.int .i64 20000000) from kv2_1.cell 1)
  have z2_6 := cell_regrown (sv2.cells.2.2.2.2.2.2.2.1)
  have z2_7 := cell_regrown (sv2.cells.2.2.2.2.2.2.2.2)
  have m2 : ∀ d' os, Calls Tryz.prog 337 #[.agg #[.int .i64 x, .int .i64 y], .agg #[.int .i64 20000000, .int .i64 20000000], .agg #[.int .i64 (-20000000), .int .i64 20000000]] (Go.Sort.grow (redrawn v2 d') os) fun e w'' => e = .returned (.bool false) ∧ ∃ p : Regrown, w'' = Go.Sort.grow (redrawn v2 p.d) p.os := fun d' os => Calls.regrown_of (crosses_2 _ _ _ x0 x1 y0 y1)
  have M2 := Lib.hid m2
  have KS2 := Lib.hid (And.intro sv2 (And.intro kv2_0 trivial))
  clear m2 ev2 sv2 kv2_0 kv2_1
  refine wp_region_quiet_below (by kernel_rfl) (by kernel_rfl) ?_
  repeat (first | go_big_quiet_step (with_reducible exact M2.out _ _) | quiet_step (with_reducible exact M2.out _ _))
  refine wpQuiet_nil ?_
  intro w3 hw'
  have hb : Below v2.heap.size v2 w3 := by obtain ⟨p, rfl⟩ := hw'; exact below_regrown _ _ _
  have hB3 : Below w.heap.size w w3 := bv2.trans (hb.mono bv2.size)
  have k3_0 := KS2.out.2.1.below hb (Nat.lt_of_lt_of_le (by omega) (Nat.le_refl _))
  have c3_0 := k3_0.cell
  have l3_0 := k3_0.lt
  have l3 := hB3.size
  obtain ⟨qa3, qb3_0, qb3_1, qb3_2, qb3_3, qb3_4, qb3_5, qb3_6, qb3_7⟩ := (HS.out.below hB3 (Nat.le_refl _)).cells
  clear hw' hb y2_0_0 y2_0_1 y2_1_0 y2_1_1 z2_6 z2_7 M2 KS2
  clear k2_0 c2_0
  go_wp2_with fail
  rw [rounds_succ]
  go_wp2_with fail
  obtain ⟨v3, ev3⟩ : ∃ v, (w3).alloc (.cells #[.int .i64 (-20000000), .int .i64 20000000] 58) = v := ⟨_, rfl⟩
  have bv3 : Below w.heap.size w v3 := by rw [← ev3]; (repeat' (first | (with_reducible exact Below.refl _ _) | (with_reducible assumption) | (with_reducible refine below_drewN ?_ _) | (with_reducible refine Below.drew ?_) | (with_reducible refine Below.alloc ?_ ?_ _) | (with_reducible refine Below.setCell ?_ ?_ _) | omega | (simp; done) | (simp; omega)))
  have sv3 := HS.out.below bv3 (Nat.le_refl _)
  have kv3_0 : Blk v3 (w.heap.size) 58 #[.int .i64 x, .int .i64 y] := by rw [← ev3]; (repeat' (first | (with_reducible assumption) | (with_reducible exact Blk.new _ _ _) | (exact Blk.newAt (by first | rfl | (simp; done) | omega)) | (with_reducible refine Blk.drewN ?_ _) | (with_reducible refine Blk.drew ?_) | (with_reducible refine Blk.alloc ?_ _) | (with_reducible apply Blk.set_) | (with_reducible refine Blk.far ?_ ?_ _) | rfl | omega | (simp; done) | (simp; omega)))
  have lv3_0 := kv3_0.lt
  have kv3_1 : Blk v3 (w3.heap.size) 58 #[.int .i64 (-20000000), .int .i64 20000000] := by rw [← ev3]; (repeat' (first | (with_reducible assumption) | (with_reducible exact Blk.new _ _ _) | (exact Blk.newAt (by first | rfl | (simp; done) | omega)) | (with_reducible refine Blk.drewN ?_ _) | (with_reducible refine Blk.drew ?_) | (with_reducible refine Blk.alloc ?_ _) | (with_reducible apply Blk.set_) | (with_reducible refine Blk.far ?_ ?_ _) | rfl | omega | (simp; done) | (simp; omega)))
  have lv3_1 := kv3_1.lt
  rw [ev3]
  have y3_0_0 := cell_regrown (show v3.cell? ⟨w.heap.size, 0, none⟩ = some (.int .i64 x) from kv3_0.cell 0)
  have y3_0_1 := cell_regrown (show v3.cell? ⟨w.heap.size, 1, none⟩ = some (.int .i64 y) from kv3_0.cell 1)
  have y3_1_0 := cell_regrown (show v3.cell? ⟨w3.heap.size, 0, none⟩ = some (.int .i64 (-20000000)) from kv3_1.cell 0)
  have y3_1_1 := cell_regrown (show v3.cell? ⟨w3.heap.size, 1, none⟩ = some (.int .i64 20000000) from kv3_1.cell 1)
  have z3_0 := cell_regrown (sv3.cells.2.1)
  have z3_1 := cell_regrown (sv3.cells.2.2.1)
  have m3 : ∀ d' os, Calls Tryz.prog 337 #[.agg #[.int .i64 x, .int .i64 y], .agg #[.int .i64 (-20000000), .int .i64 20000000], .agg #[.int .i64 (-20000000), .int .i64 (-20000000)]] (Go.Sort.grow (redrawn v3 d') os) fun e w'' => e = .returned (.bool false) ∧ ∃ p : Regrown, w'' = Go.Sort.grow (redrawn v3 p.d) p.os := fun d' os => Calls.regrown_of (crosses_3 _ _ _ x0 x1 y0 y1)
  have M3 := Lib.hid m3
  have KS3 := Lib.hid (And.intro sv3 (And.intro kv3_0 trivial))
  clear m3 ev3 sv3 kv3_0 kv3_1
  refine wp_region_quiet_below (by kernel_rfl) (by kernel_rfl) ?_
  repeat (first | go_big_quiet_step (with_reducible exact M3.out _ _) | quiet_step (with_reducible exact M3.out _ _))
  refine wpQuiet_nil ?_
  intro w4 hw'
  have hb : Below v3.heap.size v3 w4 := by obtain ⟨p, rfl⟩ := hw'; exact below_regrown _ _ _
  have hB4 : Below w.heap.size w w4 := bv3.trans (hb.mono bv3.size)
  have k4_0 := KS3.out.2.1.below hb (Nat.lt_of_lt_of_le (by omega) (Nat.le_refl _))
  have c4_0 := k4_0.cell
  have l4_0 := k4_0.lt
  have l4 := hB4.size
  obtain ⟨qa4, qb4_0, qb4_1, qb4_2, qb4_3, qb4_4, qb4_5, qb4_6, qb4_7⟩ := (HS.out.below hB4 (Nat.le_refl _)).cells
  clear hw' hb y3_0_0 y3_0_1 y3_1_0 y3_1_1 z3_0 z3_1 M3 KS3
  clear k3_0 c3_0
  go_wp2_with fail
  rw [rounds_succ]
  go_wp2_with fail
  rw [rounds_succ]
  go_wp2_with fail
  go_ret
  exact ⟨rfl, by (repeat' (first | (with_reducible exact Below.refl _ _) | (with_reducible assumption) | (with_reducible refine below_drewN ?_ _) | (with_reducible refine Below.drew ?_) | (with_reducible refine Below.alloc ?_ ?_ _) | (with_reducible refine Below.setCell ?_ ?_ _) | omega | (simp; done) | (simp; omega)))⟩
set_option maxRecDepth 100000 in
set_option maxHeartbeats 4000000 in
theorem class_sq (a b c d : Int) (gl cl gp cp : Nat) (w : World) (hS : SqAt w gl gp cp) (a0 : -10000000 ≤ a) (ac : a ≤ c) (c1 : c ≤ 10000000) (b0 : -10000000 ≤ b) (bd : b ≤ d) (d1 : d ≤ 10000000) :
    Calls Tryz.prog 247 #[.agg #[.int .i64 a, .int .i64 b, .int .i64 c, .int .i64 d], .slice (some ⟨gl, 0, none⟩) 1 cl] w fun e w' => e = .returned (.int .i64 2) ∧ Below w.heap.size w w' := by
  have HS := Lib.hid hS
  have lgl := hS.lt1
  have lgp := hS.lt2
  clear hS
  go_enter Tryz.func247, Tryz.ntmps247
  go_wp2_with fail
  refine (touches_sq a b c d gl cl gp cp _ (HS.out.alloc _) a0 ac c1 b0 bd d1).mono ?_
  rintro e w1 ⟨rfl, hb⟩
  have hB1 : Below w.heap.size w w1 := Below.trans (by (repeat' (first | (with_reducible exact Below.refl _ _) | (with_reducible assumption) | (with_reducible refine below_drewN ?_ _) | (with_reducible refine Below.drew ?_) | (with_reducible refine Below.alloc ?_ ?_ _) | (with_reducible refine Below.setCell ?_ ?_ _) | omega | (simp; done) | (simp; omega)))) (hb.mono (by first | omega | (simp; done) | (simp; omega)))
  have k1_0 : Blk w1 (w.heap.size) 70 #[.int .i64 a, .int .i64 b, .int .i64 c, .int .i64 d] := Blk.below (by (repeat' (first | (with_reducible assumption) | (with_reducible exact Blk.new _ _ _) | (exact Blk.newAt (by first | rfl | (simp; done) | omega)) | (with_reducible refine Blk.drewN ?_ _) | (with_reducible refine Blk.drew ?_) | (with_reducible refine Blk.alloc ?_ _) | (with_reducible apply Blk.set_) | (with_reducible refine Blk.far ?_ ?_ _) | rfl | omega | (simp; done) | (simp; omega)))) hb (by first | omega | (simp; done) | (simp; omega))
  have c1_0 := k1_0.cell
  have f1_0 := k1_0.frozen
  have l1_0 := k1_0.lt
  have l1 := hB1.size
  clear hb
  go_wp2_with fail
  refine (has_corner a b c d _ ac bd).mono ?_
  rintro e w2 ⟨rfl, hb⟩
  have hB2 : Below w.heap.size w w2 := Below.trans (by (repeat' (first | (with_reducible exact Below.refl _ _) | (with_reducible assumption) | (with_reducible refine below_drewN ?_ _) | (with_reducible refine Below.drew ?_) | (with_reducible refine Below.alloc ?_ ?_ _) | (with_reducible refine Below.setCell ?_ ?_ _) | omega | (simp; done) | (simp; omega)))) (hb.mono (by first | omega | (simp; done) | (simp; omega)))
  have k2_0 : Blk w2 (w.heap.size) 70 #[.int .i64 a, .int .i64 b, .int .i64 c, .int .i64 d] := Blk.below (by (repeat' (first | (with_reducible assumption) | (with_reducible exact Blk.new _ _ _) | (exact Blk.newAt (by first | rfl | (simp; done) | omega)) | (with_reducible refine Blk.drewN ?_ _) | (with_reducible refine Blk.drew ?_) | (with_reducible refine Blk.alloc ?_ _) | (with_reducible apply Blk.set_) | (with_reducible refine Blk.far ?_ ?_ _) | rfl | omega | (simp; done) | (simp; omega)))) hb (by first | omega | (simp; done) | (simp; omega))
  have k2_1 : Blk w2 (w1.heap.size) 58 #[.int .i64 a, .int .i64 b] := Blk.below (by (repeat' (first | (with_reducible assumption) | (with_reducible exact Blk.new _ _ _) | (exact Blk.newAt (by first | rfl | (simp; done) | omega)) | (with_reducible refine Blk.drewN ?_ _) | (with_reducible refine Blk.drew ?_) | (with_reducible refine Blk.alloc ?_ _) | (with_reducible apply Blk.set_) | (with_reducible refine Blk.far ?_ ?_ _) | rfl | omega | (simp; done) | (simp; omega)))) hb (by first | omega | (simp; done) | (simp; omega))
  have c2_0 := k2_0.cell
  have f2_0 := k2_0.frozen
  have l2_0 := k2_0.lt
  have c2_1 := k2_1.cell
  have f2_1 := k2_1.frozen
  have l2_1 := k2_1.lt
  have l2 := hB2.size
  clear hb
  go_wp2_with fail
  have s2 := HS.out.below hB2 (Nat.le_refl _)
  refine (odd_sq a b gl cl gp cp _ s2 (by omega) (by omega) (by omega) (by omega)).mono ?_
  rintro e w3 ⟨rfl, hb⟩
  have hB3 : Below w.heap.size w w3 := Below.trans (by (repeat' (first | (with_reducible exact Below.refl _ _) | (with_reducible assumption) | (with_reducible refine below_drewN ?_ _) | (with_reducible refine Below.drew ?_) | (with_reducible refine Below.alloc ?_ ?_ _) | (with_reducible refine Below.setCell ?_ ?_ _) | omega | (simp; done) | (simp; omega)))) (hb.mono (by first | omega | (simp; done) | (simp; omega)))
  have l3 := hB3.size
  clear hb
  go_wp2_with fail
  go_ret
  exact ⟨rfl, hB3⟩
set_option maxRecDepth 100000 in
set_option maxHeartbeats 4000000 in
theorem fclass_class (a b c d : Int) (gl cl gp cp : Nat) (w : World) (hS : SqAt w gl gp cp) (a0 : -10000000 ≤ a) (ac : a ≤ c) (c1 : c ≤ 10000000) (b0 : -10000000 ≤ b) (bd : b ≤ d) (d1 : d ≤ 10000000) :
    Calls Tryz.prog 215 #[.agg #[.int .i64 2, .int .i64 0, .int .i64 0, .int .i64 0, .int .i64 0, .int .i64 0, .int .i64 0, .int .i64 0, .slice (some ⟨gl, 0, none⟩) 1 cl, .slice none 0 0], .agg #[.int .i64 a, .int .i64 b, .int .i64 c, .int .i64 d]] w fun e w' => e = .returned (.int .i64 2) ∧ Below w.heap.size w w' := by
  have HS := Lib.hid hS
  have lgl := hS.lt1
  have lgp := hS.lt2
  clear hS
  go_enter Tryz.func215, Tryz.ntmps215
  go_wp2_with fail
  refine (class_sq a b c d gl cl gp cp _ ((HS.out.alloc _).alloc _) a0 ac c1 b0 bd d1).mono ?_
  rintro e w1 ⟨rfl, hb⟩
  have hB1 : Below w.heap.size w w1 := Below.trans (by (repeat' (first | (with_reducible exact Below.refl _ _) | (with_reducible assumption) | (with_reducible refine below_drewN ?_ _) | (with_reducible refine Below.drew ?_) | (with_reducible refine Below.alloc ?_ ?_ _) | (with_reducible refine Below.setCell ?_ ?_ _) | omega | (simp; done) | (simp; omega)))) (hb.mono (by first | omega | (simp; done) | (simp; omega)))
  have l1 := hB1.size
  clear hb
  go_wp2_with fail
  go_ret
  exact ⟨rfl, by (repeat' (first | (with_reducible exact Below.refl _ _) | (with_reducible assumption) | (with_reducible refine below_drewN ?_ _) | (with_reducible refine Below.drew ?_) | (with_reducible refine Below.alloc ?_ ?_ _) | (with_reducible refine Below.setCell ?_ ?_ _) | omega | (simp; done) | (simp; omega)))⟩
set_option maxRecDepth 100000 in
set_option maxHeartbeats 4000000 in
theorem fclass_Class (a b c d : Int) (gl cl gp cp : Nat) (w : World) (hS : SqAt w gl gp cp) (a0 : -10000000 ≤ a) (ac : a ≤ c) (c1 : c ≤ 10000000) (b0 : -10000000 ≤ b) (bd : b ≤ d) (d1 : d ≤ 10000000) :
    Calls Tryz.prog 176 #[.agg #[.int .i64 2, .int .i64 0, .int .i64 0, .int .i64 0, .int .i64 0, .int .i64 0, .int .i64 0, .int .i64 0, .slice (some ⟨gl, 0, none⟩) 1 cl, .slice none 0 0], .agg #[.int .i64 a, .int .i64 b, .int .i64 c, .int .i64 d]] w fun e w' => e = .returned (.int .i64 2) ∧ Below w.heap.size w w' := by
  have HS := Lib.hid hS
  have lgl := hS.lt1
  have lgp := hS.lt2
  clear hS
  go_enter Tryz.func176, Tryz.ntmps176
  go_wp2_with fail
  refine (ok_sq gl cl gp cp _ ((HS.out.alloc _).alloc _)).mono ?_
  rintro e w1 ⟨rfl, hb⟩
  have hB1 : Below w.heap.size w w1 := Below.trans (by (repeat' (first | (with_reducible exact Below.refl _ _) | (with_reducible assumption) | (with_reducible refine below_drewN ?_ _) | (with_reducible refine Below.drew ?_) | (with_reducible refine Below.alloc ?_ ?_ _) | (with_reducible refine Below.setCell ?_ ?_ _) | omega | (simp; done) | (simp; omega)))) (hb.mono (by first | omega | (simp; done) | (simp; omega)))
  have k1_0 : Blk w1 (w.heap.size) 62 #[.int .i64 2, .int .i64 0, .int .i64 0, .int .i64 0, .int .i64 0, .int .i64 0, .int .i64 0, .int .i64 0, .slice (some ⟨gl, 0, none⟩) 1 cl, .slice none 0 0] := Blk.below (by (repeat' (first | (with_reducible assumption) | (with_reducible exact Blk.new _ _ _) | (exact Blk.newAt (by first | rfl | (simp; done) | omega)) | (with_reducible refine Blk.drewN ?_ _) | (with_reducible refine Blk.drew ?_) | (with_reducible refine Blk.alloc ?_ _) | (with_reducible apply Blk.set_) | (with_reducible refine Blk.far ?_ ?_ _) | rfl | omega | (simp; done) | (simp; omega)))) hb (by first | omega | (simp; done) | (simp; omega))
  have k1_1 : Blk w1 (w.heap.size + 1) 70 #[.int .i64 a, .int .i64 b, .int .i64 c, .int .i64 d] := Blk.below (by (repeat' (first | (with_reducible assumption) | (with_reducible exact Blk.new _ _ _) | (exact Blk.newAt (by first | rfl | (simp; done) | omega)) | (with_reducible refine Blk.drewN ?_ _) | (with_reducible refine Blk.drew ?_) | (with_reducible refine Blk.alloc ?_ _) | (with_reducible apply Blk.set_) | (with_reducible refine Blk.far ?_ ?_ _) | rfl | omega | (simp; done) | (simp; omega)))) hb (by first | omega | (simp; done) | (simp; omega))
  have c1_0 := k1_0.cell
  have f1_0 := k1_0.frozen
  have l1_0 := k1_0.lt
  have c1_1 := k1_1.cell
  have f1_1 := k1_1.frozen
  have l1_1 := k1_1.lt
  have l1 := hB1.size
  clear hb
  go_wp2_with fail
  have s1 := HS.out.below hB1 (Nat.le_refl _)
  refine (fclass_class a b c d gl cl gp cp _ s1 a0 ac c1 b0 bd d1).mono ?_
  rintro e w2 ⟨rfl, hb⟩
  have hB2 : Below w.heap.size w w2 := Below.trans (by (repeat' (first | (with_reducible exact Below.refl _ _) | (with_reducible assumption) | (with_reducible refine below_drewN ?_ _) | (with_reducible refine Below.drew ?_) | (with_reducible refine Below.alloc ?_ ?_ _) | (with_reducible refine Below.setCell ?_ ?_ _) | omega | (simp; done) | (simp; omega)))) (hb.mono (by first | omega | (simp; done) | (simp; omega)))
  have l2 := hB2.size
  clear hb
  go_wp2_with fail
  go_ret
  exact ⟨rfl, by (repeat' (first | (with_reducible exact Below.refl _ _) | (with_reducible assumption) | (with_reducible refine below_drewN ?_ _) | (with_reducible refine Below.drew ?_) | (with_reducible refine Below.alloc ?_ ?_ _) | (with_reducible refine Below.setCell ?_ ?_ _) | omega | (simp; done) | (simp; omega)))⟩
set_option maxRecDepth 100000 in
set_option maxHeartbeats 4000000 in
theorem fold_in (w : World) : Calls Tryz.prog 175 #[.int .i64 0, .int .i64 2, .bool true] w fun e w' => e = .returned (.int .i64 2) ∧ Below w.heap.size w w' := by
  go_enter Tryz.func175, Tryz.ntmps175
  go_wp2
  go_ret
  exact ⟨rfl, by go_grown⟩
end Go.Proofs.YtfajckkbinbpiaaGreatDoor
