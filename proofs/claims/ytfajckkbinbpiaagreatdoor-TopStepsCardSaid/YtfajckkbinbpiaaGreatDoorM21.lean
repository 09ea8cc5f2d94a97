/- Walks: the bounds of the one square. Walks: the meter of steps. -/
import Derived.Test.YtfajckkbinbpiaaGreatDoorM20
import Derived.Laws.LoneSync
import Derived.Laws.Pointers
import Derived.IntWalk
namespace Go.Proofs.YtfajckkbinbpiaaGreatDoor
open Go.RowKit
set_option linter.unusedVariables false
set_option linter.unusedSimpArgs false

set_option maxRecDepth 100000 in
set_option maxHeartbeats 16000000 in
theorem bounds_sq (gl cl gp cp : Nat) (w : World) (hS : SqAt w gl gp cp) :
    Calls Tryz.prog 172 #[.agg #[.int .i64 2, .int .i64 0, .int .i64 0, .int .i64 0, .int .i64 0, .int .i64 0, .int .i64 0, .int .i64 0, .slice (some ⟨gl, 0, none⟩) 1 cl, .slice none 0 0]] w fun e w' => e = .returned (.tuple #[.agg #[.int .i64 (-20000000), .int .i64 (-20000000), .int .i64 20000000, .int .i64 20000000], .bool true]) ∧ Below w.heap.size w w' := by
  have HS := Lib.hid hS
  clear hS
  go_enter Tryz.func172, Tryz.ntmps172
  go_wp2_with fail
  obtain ⟨u0, eu⟩ : ∃ u, (((w.alloc (.cells #[.int .i64 2, .int .i64 0, .int .i64 0, .int .i64 0, .int .i64 0, .int .i64 0, .int .i64 0, .int .i64 0, .slice (some ⟨gl, 0, none⟩) 1 cl, .slice none 0 0] 62)).alloc (.cells #[.int .i64 0, .int .i64 0, .int .i64 0, .int .i64 0] 70)).alloc (.cells #[.int .i64 0, .int .i64 0, .int .i64 0, .int .i64 0] 70)).alloc (.cells #[.bool false] 4) = u := ⟨_, rfl⟩
  have B0 : Below w.heap.size w u0 := by rw [← eu]; (repeat' (first | (with_reducible exact Below.refl _ _) | (with_reducible assumption) | (with_reducible refine below_drewN ?_ _) | (with_reducible refine Below.drew ?_) | (with_reducible refine Below.alloc ?_ ?_ _) | (with_reducible refine Below.setCell ?_ ?_ _) | omega | (simp; done) | (simp; omega)))
  have s0 : SqAt u0 gl gp cp := HS.out.below B0 (Nat.le_refl _)
  have kS0 : Blk u0 w.heap.size 62 #[.int .i64 2, .int .i64 0, .int .i64 0, .int .i64 0, .int .i64 0, .int .i64 0, .int .i64 0, .int .i64 0, .slice (some ⟨gl, 0, none⟩) 1 cl, .slice none 0 0] := by rw [← eu]; (repeat' (first | (with_reducible assumption) | (with_reducible exact Blk.new _ _ _) | (exact Blk.newAt (by first | rfl | (simp; done) | omega)) | (with_reducible refine Blk.drewN ?_ _) | (with_reducible refine Blk.drew ?_) | (with_reducible refine Blk.alloc ?_ _) | (with_reducible apply Blk.set_) | (with_reducible refine Blk.far ?_ ?_ _) | rfl | omega | (simp; done) | (simp; omega)))
  have kR0 : Blk u0 (w.heap.size + 1) 70 #[.int .i64 0, .int .i64 0, .int .i64 0, .int .i64 0] := by rw [← eu]; (repeat' (first | (with_reducible assumption) | (with_reducible exact Blk.new _ _ _) | (exact Blk.newAt (by first | rfl | (simp; done) | omega)) | (with_reducible refine Blk.drewN ?_ _) | (with_reducible refine Blk.drew ?_) | (with_reducible refine Blk.alloc ?_ _) | (with_reducible apply Blk.set_) | (with_reducible refine Blk.far ?_ ?_ _) | rfl | omega | (simp; done) | (simp; omega)))
  have kA0 : Blk u0 (w.heap.size + 1 + 1) 70 #[.int .i64 0, .int .i64 0, .int .i64 0, .int .i64 0] := by rw [← eu]; (repeat' (first | (with_reducible assumption) | (with_reducible exact Blk.new _ _ _) | (exact Blk.newAt (by first | rfl | (simp; done) | omega)) | (with_reducible refine Blk.drewN ?_ _) | (with_reducible refine Blk.drew ?_) | (with_reducible refine Blk.alloc ?_ _) | (with_reducible apply Blk.set_) | (with_reducible refine Blk.far ?_ ?_ _) | rfl | omega | (simp; done) | (simp; omega)))
  have kF0 : Blk u0 (w.heap.size + 1 + 1 + 1) 4 #[.bool false] := by rw [← eu]; (repeat' (first | (with_reducible assumption) | (with_reducible exact Blk.new _ _ _) | (exact Blk.newAt (by first | rfl | (simp; done) | omega)) | (with_reducible refine Blk.drewN ?_ _) | (with_reducible refine Blk.drew ?_) | (with_reducible refine Blk.alloc ?_ _) | (with_reducible apply Blk.set_) | (with_reducible refine Blk.far ?_ ?_ _) | rfl | omega | (simp; done) | (simp; omega)))
  rw [eu]
  have hne : w.heap.size + 1 + 1 + 1 ≠ w.heap.size + 1 + 1 := by omega
  have n1 : w.heap.size ≠ (w.heap.size + 1 + 1) := by omega
  have n2 : w.heap.size ≠ (w.heap.size + 1 + 1 + 1) := by omega
  have n3 : (w.heap.size + 1) ≠ (w.heap.size + 1 + 1) := by omega
  have n4 : (w.heap.size + 1) ≠ (w.heap.size + 1 + 1 + 1) := by omega
  have n5 : w.heap.size ≠ (w.heap.size + 1) := by omega
  have lgw := HS.out.lt1
  have lpw := HS.out.lt2
  have n6 : gl ≠ (w.heap.size + 1 + 1) := by omega
  have n7 : gl ≠ (w.heap.size + 1 + 1 + 1) := by omega
  have n8 : gp ≠ (w.heap.size + 1 + 1) := by omega
  have n9 : gp ≠ (w.heap.size + 1 + 1 + 1) := by omega
  clear eu lgw lpw
  refine wp_loop_rounds 2 ?_
  have q1 := s0.1
  have q0 := s0.lt1
  rw [rounds_succ]
  go_wp2_with fail
  refine wp_loop_rounds 5 ?_
  clear q1 q0
  obtain ⟨qa, qb0, qb1, qb2, qb3, qb4, qb5, qb6, qb7⟩ := s0.cells
  have lq := s0.lt2
  have lq1 := s0.lt1
  rw [rounds_succ]
  go_wp2_with fail
  refine (around_0 _).mono ?_
  rintro e z ⟨rfl, hb⟩
  have ls := kS0.lt
  have lr := kR0.lt
  have la := kA0.lt
  have lf := kF0.lt
  have zS := (kS0.alloc (.cells #[.int .i64 (-20000000), .int .i64 (-20000000)] 58)).below hb (by simp; omega)
  have zR := (kR0.alloc (.cells #[.int .i64 (-20000000), .int .i64 (-20000000)] 58)).below hb (by simp; omega)
  have zA := (kA0.alloc (.cells #[.int .i64 (-20000000), .int .i64 (-20000000)] 58)).below hb (by simp; omega)
  have zF := (kF0.alloc (.cells #[.int .i64 (-20000000), .int .i64 (-20000000)] 58)).below hb (by simp; omega)
  have zQ := (s0.alloc (.cells #[.int .i64 (-20000000), .int .i64 (-20000000)] 58)).below hb (Nat.le_refl _)
  have zB : Below w.heap.size w z := Below.trans (B0.alloc B0.size (.cells #[.int .i64 (-20000000), .int .i64 (-20000000)] 58)) (hb.mono (by have := B0.size; simp; omega))
  clear hb qa qb0 qb1 qb2 qb3 qb4 qb5 qb6 qb7 lq lq1 ls lr la lf kS0 kR0 kA0 kF0 B0
  go_wp2_with fail
  refine (take_0 (w.heap.size + 1 + 1) (w.heap.size + 1 + 1 + 1) _ zA zF hne).mono ?_
  rintro e u1 ⟨rfl, kA1, kF1, hO⟩
  have kS1 := hO.blk zS (by first | (simp; done) | (simp; omega))
  have kR1 := hO.blk zR (by first | (simp; done) | (simp; omega))
  have s1 := zQ.only hO (by first | (simp; done) | (simp; omega)) (by first | (simp; done) | (simp; omega))
  have B1 : Below w.heap.size w u1 := zB.trans (hO.toBelow zB.size (by intro b hb; simp at hb; omega))
  clear hO zS zR zA zF zQ zB
  go_wp2_with fail
  obtain ⟨qa, qb0, qb1, qb2, qb3, qb4, qb5, qb6, qb7⟩ := s1.cells
  have lq := s1.lt2
  have lq1 := s1.lt1
  rw [rounds_succ]
  go_wp2_with fail
  refine (around_1 _).mono ?_
  rintro e z ⟨rfl, hb⟩
  have ls := kS1.lt
  have lr := kR1.lt
  have la := kA1.lt
  have lf := kF1.lt
  have zS := (kS1.alloc (.cells #[.int .i64 20000000, .int .i64 (-20000000)] 58)).below hb (by simp; omega)
  have zR := (kR1.alloc (.cells #[.int .i64 20000000, .int .i64 (-20000000)] 58)).below hb (by simp; omega)
  have zA := (kA1.alloc (.cells #[.int .i64 20000000, .int .i64 (-20000000)] 58)).below hb (by simp; omega)
  have zF := (kF1.alloc (.cells #[.int .i64 20000000, .int .i64 (-20000000)] 58)).below hb (by simp; omega)
  have zQ := (s1.alloc (.cells #[.int .i64 20000000, .int .i64 (-20000000)] 58)).below hb (Nat.le_refl _)
  have zB : Below w.heap.size w z := Below.trans (B1.alloc B1.size (.cells #[.int .i64 20000000, .int .i64 (-20000000)] 58)) (hb.mono (by have := B1.size; simp; omega))
  clear hb qa qb0 qb1 qb2 qb3 qb4 qb5 qb6 qb7 lq lq1 ls lr la lf kS1 kR1 kA1 kF1 B1
  go_wp2_with fail
  refine (take_1 (w.heap.size + 1 + 1) (w.heap.size + 1 + 1 + 1) _ zA zF hne).mono ?_
  rintro e u2 ⟨rfl, kA2, kF2, hO⟩
  have kS2 := hO.blk zS (by first | (simp; done) | (simp; omega))
  have kR2 := hO.blk zR (by first | (simp; done) | (simp; omega))
  have s2 := zQ.only hO (by first | (simp; done) | (simp; omega)) (by first | (simp; done) | (simp; omega))
  have B2 : Below w.heap.size w u2 := zB.trans (hO.toBelow zB.size (by intro b hb; simp at hb; omega))
  clear hO zS zR zA zF zQ zB
  go_wp2_with fail
  obtain ⟨qa, qb0, qb1, qb2, qb3, qb4, qb5, qb6, qb7⟩ := s2.cells
  have lq := s2.lt2
  have lq1 := s2.lt1
  rw [rounds_succ]
  go_wp2_with fail
  refine (around_2 _).mono ?_
  rintro e z ⟨rfl, hb⟩
  have ls := kS2.lt
  have lr := kR2.lt
  have la := kA2.lt
  have lf := kF2.lt
  have zS := (kS2.alloc (.cells #[.int .i64 20000000, .int .i64 20000000] 58)).below hb (by simp; omega)
  have zR := (kR2.alloc (.cells #[.int .i64 20000000, .int .i64 20000000] 58)).below hb (by simp; omega)
  have zA := (kA2.alloc (.cells #[.int .i64 20000000, .int .i64 20000000] 58)).below hb (by simp; omega)
  have zF := (kF2.alloc (.cells #[.int .i64 20000000, .int .i64 20000000] 58)).below hb (by simp; omega)
  have zQ := (s2.alloc (.cells #[.int .i64 20000000, .int .i64 20000000] 58)).below hb (Nat.le_refl _)
  have zB : Below w.heap.size w z := Below.trans (B2.alloc B2.size (.cells #[.int .i64 20000000, .int .i64 20000000] 58)) (hb.mono (by have := B2.size; simp; omega))
  clear hb qa qb0 qb1 qb2 qb3 qb4 qb5 qb6 qb7 lq lq1 ls lr la lf kS2 kR2 kA2 kF2 B2
  go_wp2_with fail
  refine (take_2 (w.heap.size + 1 + 1) (w.heap.size + 1 + 1 + 1) _ zA zF hne).mono ?_
  rintro e u3 ⟨rfl, kA3, kF3, hO⟩
  have kS3 := hO.blk zS (by first | (simp; done) | (simp; omega))
  have kR3 := hO.blk zR (by first | (simp; done) | (simp; omega))
  have s3 := zQ.only hO (by first | (simp; done) | (simp; omega)) (by first | (simp; done) | (simp; omega))
  have B3 : Below w.heap.size w u3 := zB.trans (hO.toBelow zB.size (by intro b hb; simp at hb; omega))
  clear hO zS zR zA zF zQ zB
  go_wp2_with fail
  obtain ⟨qa, qb0, qb1, qb2, qb3, qb4, qb5, qb6, qb7⟩ := s3.cells
  have lq := s3.lt2
  have lq1 := s3.lt1
  rw [rounds_succ]
  go_wp2_with fail
  refine (around_3 _).mono ?_
  rintro e z ⟨rfl, hb⟩
  have ls := kS3.lt
  have lr := kR3.lt
  have la := kA3.lt
  have lf := kF3.lt
  have zS := (kS3.alloc (.cells #[.int .i64 (-20000000), .int .i64 20000000] 58)).below hb (by simp; omega)
  have zR := (kR3.alloc (.cells #[.int .i64 (-20000000), .int .i64 20000000] 58)).below hb (by simp; omega)
  have zA := (kA3.alloc (.cells #[.int .i64 (-20000000), .int .i64 20000000] 58)).below hb (by simp; omega)
  have zF := (kF3.alloc (.cells #[.int .i64 (-20000000), .int .i64 20000000] 58)).below hb (by simp; omega)
  have zQ := (s3.alloc (.cells #[.int .i64 (-20000000), .int .i64 20000000] 58)).below hb (Nat.le_refl _)
  have zB : Below w.heap.size w z := Below.trans (B3.alloc B3.size (.cells #[.int .i64 (-20000000), .int .i64 20000000] 58)) (hb.mono (by have := B3.size; simp; omega))
  clear hb qa qb0 qb1 qb2 qb3 qb4 qb5 qb6 qb7 lq lq1 ls lr la lf kS3 kR3 kA3 kF3 B3
  go_wp2_with fail
  refine (take_3 (w.heap.size + 1 + 1) (w.heap.size + 1 + 1 + 1) _ zA zF hne).mono ?_
  rintro e u4 ⟨rfl, kA4, kF4, hO⟩
  have kS4 := hO.blk zS (by first | (simp; done) | (simp; omega))
  have kR4 := hO.blk zR (by first | (simp; done) | (simp; omega))
  have s4 := zQ.only hO (by first | (simp; done) | (simp; omega)) (by first | (simp; done) | (simp; omega))
  have B4 : Below w.heap.size w u4 := zB.trans (hO.toBelow zB.size (by intro b hb; simp at hb; omega))
  clear hO zS zR zA zF zQ zB
  go_wp2_with fail
  have cS := kS4.cell
  have ls := kS4.lt
  have cA := kA4.cell
  have la := kA4.lt
  have cF := kF4.cell
  have lf := kF4.lt
  have cR := kR4.cell
  have fR := kR4.frozen
  have lr := kR4.lt
  have KR := Lib.hid kR4
  rw [rounds_succ]
  go_wp2_with fail
  rw [rounds_succ]
  go_wp2_with fail
  refine wp_loop_rounds 1 ?_
  rw [rounds_succ]
  go_wp2_with fail
  go_region
  all_goals
    go_wp2_with fail
    refine bodyPost_ret (results_row_tmp Tryz.results172 _ _ (w.heap.size + 1) #[.int .i64 (-20000000), .int .i64 (-20000000), .int .i64 20000000, .int .i64 20000000] (by rfl) (run_loadVar_row _ _ 70 70 _ (0, 0) _ ?_ Tryz.underlying70 rfl (by kernel_rfl))) rfl ⟨rfl, ?_⟩
    · exact ((((KR.out.set_ 0 _ rfl).set_ 1 _ rfl).set_ 2 _ rfl).set_ 3 _ rfl).drew
    · (repeat' (first | (with_reducible exact Below.refl _ _) | (with_reducible assumption) | (with_reducible refine below_drewN ?_ _) | (with_reducible refine Below.drew ?_) | (with_reducible refine Below.alloc ?_ ?_ _) | (with_reducible refine Below.setCell ?_ ?_ _) | omega | (simp; done) | (simp; omega)))

set_option maxRecDepth 100000 in
set_option maxHeartbeats 4000000 in
theorem Bounds_sq (gl cl gp cp : Nat) (w : World) (hS : SqAt w gl gp cp) :
    Calls Tryz.prog 112 #[.agg #[.int .i64 2, .int .i64 0, .int .i64 0, .int .i64 0, .int .i64 0, .int .i64 0, .int .i64 0, .int .i64 0, .slice (some ⟨gl, 0, none⟩) 1 cl, .slice none 0 0]] w fun e w' => e = .returned (.tuple #[.agg #[.int .i64 (-20000000), .int .i64 (-20000000), .int .i64 20000000, .int .i64 20000000], .bool true]) ∧ Below w.heap.size w w' := by
  have HS := Lib.hid hS
  clear hS
  go_enter Tryz.func112, Tryz.ntmps112
  go_wp2_with fail
  refine (ok_sq gl cl gp cp _ ((HS.out.alloc _).alloc _)).mono ?_
  rintro e w1 ⟨rfl, hb⟩
  have hB1 : Below w.heap.size w w1 := Below.trans (by (repeat' (first | (with_reducible exact Below.refl _ _) | (with_reducible assumption) | (with_reducible refine below_drewN ?_ _) | (with_reducible refine Below.drew ?_) | (with_reducible refine Below.alloc ?_ ?_ _) | (with_reducible refine Below.setCell ?_ ?_ _) | omega | (simp; done) | (simp; omega)))) (hb.mono (by first | omega | (simp; done) | (simp; omega)))
  have k1_0 : Blk w1 (w.heap.size) 62 #[.int .i64 2, .int .i64 0, .int .i64 0, .int .i64 0, .int .i64 0, .int .i64 0, .int .i64 0, .int .i64 0, .slice (some ⟨gl, 0, none⟩) 1 cl, .slice none 0 0] := Blk.below (by (repeat' (first | (with_reducible assumption) | (with_reducible exact Blk.new _ _ _) | (exact Blk.newAt (by first | rfl | (simp; done) | omega)) | (with_reducible refine Blk.drewN ?_ _) | (with_reducible refine Blk.drew ?_) | (with_reducible refine Blk.alloc ?_ _) | (with_reducible apply Blk.set_) | (with_reducible refine Blk.far ?_ ?_ _) | rfl | omega | (simp; done) | (simp; omega)))) hb (by first | omega | (simp; done) | (simp; omega))
  have k1_1 : Blk w1 (w.heap.size + 1) 70 #[.int .i64 0, .int .i64 0, .int .i64 0, .int .i64 0] := Blk.below (by (repeat' (first | (with_reducible assumption) | (with_reducible exact Blk.new _ _ _) | (exact Blk.newAt (by first | rfl | (simp; done) | omega)) | (with_reducible refine Blk.drewN ?_ _) | (with_reducible refine Blk.drew ?_) | (with_reducible refine Blk.alloc ?_ _) | (with_reducible apply Blk.set_) | (with_reducible refine Blk.far ?_ ?_ _) | rfl | omega | (simp; done) | (simp; omega)))) hb (by first | omega | (simp; done) | (simp; omega))
  have c1_0 := k1_0.cell
  have f1_0 := k1_0.frozen
  have l1_0 := k1_0.lt
  have c1_1 := k1_1.cell
  have f1_1 := k1_1.frozen
  have l1_1 := k1_1.lt
  have l1 := hB1.size
  clear hb
  go_wp2_with fail
  refine (bounds_sq gl cl gp cp _ (HS.out.below hB1 (Nat.le_refl _))).mono ?_
  rintro e w2 ⟨rfl, hb⟩
  have hB2 : Below w.heap.size w w2 := Below.trans (by (repeat' (first | (with_reducible exact Below.refl _ _) | (with_reducible assumption) | (with_reducible refine below_drewN ?_ _) | (with_reducible refine Below.drew ?_) | (with_reducible refine Below.alloc ?_ ?_ _) | (with_reducible refine Below.setCell ?_ ?_ _) | omega | (simp; done) | (simp; omega)))) (hb.mono (by first | omega | (simp; done) | (simp; omega)))
  have k2_0 : Blk w2 (w.heap.size + 1) 70 #[.int .i64 0, .int .i64 0, .int .i64 0, .int .i64 0] := Blk.below (by (repeat' (first | (with_reducible assumption) | (with_reducible exact Blk.new _ _ _) | (exact Blk.newAt (by first | rfl | (simp; done) | omega)) | (with_reducible refine Blk.drewN ?_ _) | (with_reducible refine Blk.drew ?_) | (with_reducible refine Blk.alloc ?_ _) | (with_reducible apply Blk.set_) | (with_reducible refine Blk.far ?_ ?_ _) | rfl | omega | (simp; done) | (simp; omega)))) hb (by first | omega | (simp; done) | (simp; omega))
  have c2_0 := k2_0.cell
  have f2_0 := k2_0.frozen
  have l2_0 := k2_0.lt
  have l2 := hB2.size
  clear hb k1_0 k1_1 c1_0 c1_1 f1_0 f1_1 l1_0 l1_1
  go_wp2_with fail
  refine bodyPost_ret (results_row_tmp Tryz.results112 _ _ (w.heap.size + 1) #[.int .i64 (-20000000), .int .i64 (-20000000), .int .i64 20000000, .int .i64 20000000] (by rfl) (run_loadVar_row _ _ 70 70 _ (0, 0) _ ?_ Tryz.underlying70 rfl (by kernel_rfl))) rfl ⟨rfl, ?_⟩
  · exact (((k2_0.set_ 0 _ rfl).set_ 1 _ rfl).set_ 2 _ rfl).set_ 3 _ rfl
  · (repeat' (first | (with_reducible exact Below.refl _ _) | (with_reducible assumption) | (with_reducible refine below_drewN ?_ _) | (with_reducible refine Below.drew ?_) | (with_reducible refine Below.alloc ?_ ?_ _) | (with_reducible refine Below.setCell ?_ ?_ _) | omega | (simp; done) | (simp; omega)))

set_option maxRecDepth 100000 in
set_option maxHeartbeats 4000000 in
theorem hasBar_sq (p : Option Addr) (m c : Nat) (w : World) :
    Calls Tryz.prog 113 #[.agg #[.int .i64 2, .int .i64 0, .int .i64 0, .int .i64 0, .int .i64 0, .int .i64 0, .int .i64 0, .int .i64 0, .slice p m c, .slice none 0 0]] w fun e w' => e = .returned (.bool false) ∧ Below w.heap.size w w' := by
  go_enter Tryz.func113, Tryz.ntmps113
  go_wp2_with fail
  refine wp_loop_rounds 1 ?_
  rw [rounds_succ]
  go_wp2_with fail
  go_ret
  exact ⟨rfl, by (repeat' (first | (with_reducible exact Below.refl _ _) | (with_reducible assumption) | (with_reducible refine below_drewN ?_ _) | (with_reducible refine Below.drew ?_) | (with_reducible refine Below.alloc ?_ ?_ _) | (with_reducible refine Below.setCell ?_ ?_ _) | omega | (simp; done) | (simp; omega)))⟩
end Go.Proofs.YtfajckkbinbpiaaGreatDoor
namespace Go.Proofs.YtfajckkbinbpiaaGreatDoor
open Go.RowKit
set_option linter.unusedVariables false
set_option linter.unusedSimpArgs false

set_option maxRecDepth 100000 in
set_option maxHeartbeats 4000000 in
theorem newMeter_c (w : World) : Calls Tryz.prog 30 #[.int .i64 100] w fun e w' => e = .returned (.pointer (some ⟨w.heap.size, 0, none⟩)) ∧ w' = w.alloc (.cells #[.int .i64 100, .int .i64 0] 133) := by
  have m1 : min (100 : Int) 100000000 = 100 := by decide
  have m2 : max (0 : Int) 100 = 100 := by decide
  go_enter Tryz.func30, Tryz.ntmps30
  go_wp2
  go_ret
  exact ⟨rfl, rfl⟩
set_option maxRecDepth 100000 in
set_option maxHeartbeats 4000000 in
theorem add64_c (M : Nat) (k : Int) (w : World) (h0 : 0 ≤ k) (h1 : k < 100) (hc : w.cell? ⟨M, 1, none⟩ = some (.int .i64 k)) (hz : w.frozen? ⟨M, 1, none⟩ = false) :
    Calls Tryz.prog 174 #[.pointer (some ⟨M, 1, none⟩), .int .i64 1] w fun e w' => e = .returned (.int .i64 (k + 1)) ∧ w' = w.setCell ⟨M, 1, none⟩ (.int .i64 (k + 1)) := by
  have hadd := run_call_add (P := Tryz.prog) Tryz.func214 (by kernel_rfl) (by kernel_rfl) (by kernel_rfl) .i64 (by kernel_rfl) (y := 1) (s := k + 1) hc hz (by have h9 : IntKind.i64.wrap (k + 1) = k + 1 := IntWalk.i64_in _ (by omega); simp [go_sem, h9])
  go_enter Tryz.func174, Tryz.ntmps174
  go_wp2
  go_ret
  exact ⟨rfl, rfl⟩
set_option maxRecDepth 100000 in
set_option maxHeartbeats 4000000 in
theorem meterTake_c (M : Nat) (k : Int) (w : World) (h0 : 0 ≤ k) (h1 : k < 100) (hM : Blk w M 133 #[.int .i64 100, .int .i64 k]) :
    Calls Tryz.prog 115 #[.pointer (some ⟨M, 0, none⟩)] w fun e w' => e = .returned (.bool true) ∧ Blk w' M 133 #[.int .i64 100, .int .i64 (k + 1)] ∧ Only [M] w w' := by
  have c0 : w.cell? ⟨M, 0, none⟩ = some (.int .i64 100) := hM.cell 0
  have l := hM.lt
  have hle : k + 1 ≤ 100 := by omega
  have ha : ∀ w', Blk w' M 133 #[.int .i64 100, .int .i64 k] → Calls Tryz.prog 174 #[.pointer (some ⟨M, 1, none⟩), .int .i64 1] w' fun e w'' => e = .returned (.int .i64 (k + 1)) ∧ w'' = w'.setCell ⟨M, 1, none⟩ (.int .i64 (k + 1)) := fun w' h => add64_c M k w' h0 h1 (h.cell 1) (h.frozen 1)
  have HA := Lib.hid ha
  have HM := Lib.hid hM
  clear ha hM
  go_enter Tryz.func115, Tryz.ntmps115
  go_wp2_with fail
  go_region_held3 (fun w' => w'.cell? ⟨M, 0, none⟩ = some (.int .i64 100))
    (first | exact c0 | (simp [World.cell?_setCell_other]; exact c0))
    (first | (go_at_call 174; (with_reducible refine (HA.out _ HM.out.drew).mono ?_); rintro e w' ⟨rfl, rfl⟩))
  all_goals
    go_wp2_with fail
    go_ret
    exact ⟨rfl, (HM.out.drew.set_ 1 _ rfl), by (repeat' (first | (with_reducible exact Only.refl _ _) | (with_reducible assumption) | (with_reducible refine Only.drewN ?_ _) | (with_reducible refine Only.drew ?_) | (with_reducible refine Only.alloc ?_ _) | (with_reducible refine Only.setCell ?_ ?_ _) | (left; simp; done) | (right; omega) | (right; simp; done) | (right; simp; omega)))⟩
end Go.Proofs.YtfajckkbinbpiaaGreatDoor
