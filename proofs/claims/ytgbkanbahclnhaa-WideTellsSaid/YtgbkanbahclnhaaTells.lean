/- A walk: heliographlaw1.WideTells returns true. -/
import Derived.Test.YtgbkanbahclnhaaRef
namespace Go.Proofs.Ytgbkanbahclnhaa
open Go.RowKit Go.Sort
set_option linter.unusedVariables false

set_option maxRecDepth 100000 in
set_option maxHeartbeats 2000000 in
theorem tells_yes (a b : Nat) (v : Int) (xh xl yh yl : Nat) (ha : a < lim) (hb0 : b < lim) (v0 : -9223372036854775808 ≤ v) (v1 : v ≤ 9223372036854775807) (h1 : xh < lim) (h2 : xl < lim) (h3 : yh < lim) (h4 : yl < lim) (h : val xh xl + val yh yl < lim * lim) (w : World) :
    Calls Try.prog 8 #[.int .u64 a, .int .u64 b, .int .i64 v, .agg #[.int .u64 xh, .int .u64 xl], .agg #[.int .u64 yh, .int .u64 yl]] w fun e w' => e = .returned (.bool true) ∧ Below w.heap.size w w' := by
  have a1 := fun w => wadd_yes xh xl yh yl h1 h2 h3 h4 h w
  have a2 := fun w => radd_yes xh xl yh yl h1 h2 h3 h4 h w
  have m1 : ∀ w d os, Calls Try.prog 21 #[.int .i64 v] (grow (redrawn w d) os) fun e w'' => e = .returned (.int .u64 (v.natAbs : Nat)) ∧ ∃ p : Regrown, w'' = grow (redrawn w p.d) p.os := fun w d os => Calls.regrown_of ((wabs v v0 v1 _).mono fun e w' ⟨p, q⟩ => ⟨p, by rw [← q]; exact RowKit.Below.refl _ _⟩)
  have m2 : ∀ w d os, Calls Try.prog 22 #[.int .i64 v] (grow (redrawn w d) os) fun e w'' => e = .returned (.int .u64 (v.natAbs : Nat)) ∧ ∃ p : Regrown, w'' = grow (redrawn w p.d) p.os := fun w d os => Calls.regrown_of ((rabs v v0 v1 _).mono fun e w' ⟨p, q⟩ => ⟨p, by rw [← q]; exact RowKit.Below.refl _ _⟩)
  have m3 : ∀ w d os, Calls Try.prog 17 #[.int .u64 a, .int .u64 b] (grow (redrawn w d) os) fun e w'' => e = .returned (.agg #[.int .u64 (hiN (a * b) : Nat), .int .u64 (loN (a * b) : Nat)]) ∧ ∃ p : Regrown, w'' = grow (redrawn w p.d) p.os := fun w d os => Calls.regrown_of (wmul a b ha hb0 _)
  have m4 : ∀ w d os, Calls Try.prog 23 #[.int .u64 a, .int .u64 b] (grow (redrawn w d) os) fun e w'' => e = .returned (.agg #[.int .u64 (hiN (a * b) : Nat), .int .u64 (loN (a * b) : Nat)]) ∧ ∃ p : Regrown, w'' = grow (redrawn w p.d) p.os := fun w d os => Calls.regrown_of (rmul a b ha hb0 _)
  have m5 : ∀ w d os, Calls Try.prog 24 #[.int .i64 v] (grow (redrawn w d) os) fun e w'' => e = .returned (.agg #[.int .u64 (hiN (v.natAbs * v.natAbs) : Nat), .int .u64 (loN (v.natAbs * v.natAbs) : Nat)]) ∧ ∃ p : Regrown, w'' = grow (redrawn w p.d) p.os := fun w d os => Calls.regrown_of (wsq v v0 v1 _)
  have m6 : ∀ w d os, Calls Try.prog 25 #[.int .i64 v] (grow (redrawn w d) os) fun e w'' => e = .returned (.agg #[.int .u64 (hiN (v.natAbs * v.natAbs) : Nat), .int .u64 (loN (v.natAbs * v.natAbs) : Nat)]) ∧ ∃ p : Regrown, w'' = grow (redrawn w p.d) p.os := fun w d os => Calls.regrown_of (rsq v v0 v1 _)
  have m7 : ∀ w d os, Calls Try.prog 26 #[.agg #[.int .u64 xh, .int .u64 xl], .agg #[.int .u64 yh, .int .u64 yl]] (grow (redrawn w d) os) fun e w'' => e = .returned (.int .i64 (cmpN (val xh xl) (val yh yl))) ∧ ∃ p : Regrown, w'' = grow (redrawn w p.d) p.os := fun w d os => Calls.regrown_of (wcmp xh xl yh yl h2 h4 _)
  have m8 : ∀ w d os, Calls Try.prog 27 #[.agg #[.int .u64 xh, .int .u64 xl], .agg #[.int .u64 yh, .int .u64 yl]] (grow (redrawn w d) os) fun e w'' => e = .returned (.int .i64 (cmpN (val xh xl) (val yh yl))) ∧ ∃ p : Regrown, w'' = grow (redrawn w p.d) p.os := fun w d os => Calls.regrown_of (rcmp xh xl yh yl h2 h4 _)
  have m9 : ∀ w d os, Calls Try.prog 26 #[.agg #[.int .u64 xh, .int .u64 xl], .agg #[.int .u64 xh, .int .u64 xl]] (grow (redrawn w d) os) fun e w'' => e = .returned (.int .i64 0) ∧ ∃ p : Regrown, w'' = grow (redrawn w p.d) p.os := fun w d os => Calls.regrown_of (by have := wcmp xh xl xh xl h2 h2 (grow (redrawn w d) os); rw [cmp_eq rfl] at this; exact this)
  have m10 : ∀ w d os, Calls Try.prog 19 #[] (grow (redrawn w d) os) fun e w'' => e = .returned (.bool true) ∧ ∃ p : Regrown, w'' = grow (redrawn w p.d) p.os := fun w d os => Calls.regrown_of (awake1 _)
  have AA1 := Lib.hid a1; have AA2 := Lib.hid a2
  clear a1 a2
  have M1 := Lib.hid m1; have M2 := Lib.hid m2; have M3 := Lib.hid m3; have M4 := Lib.hid m4; have M5 := Lib.hid m5
  have M6 := Lib.hid m6; have M7 := Lib.hid m7; have M8 := Lib.hid m8; have M9 := Lib.hid m9; have M10 := Lib.hid m10
  clear m1 m2 m3 m4 m5 m6 m7 m8 m9 m10 h
  generalize cmpN (val xh xl) (val yh yl) = C at *
  generalize hiN (val xh xl + val yh yl) = H at *
  generalize loN (val xh xl + val yh yl) = L at *
  generalize hiN (v.natAbs * v.natAbs) = H2 at *
  generalize loN (v.natAbs * v.natAbs) = L2 at *
  generalize hiN (a * b) = H1 at *
  generalize loN (a * b) = L1 at *
  generalize v.natAbs = V at *
  go_enter Try.func8, Try.ntmps8
  go_wp2_with fail
  refine (AA1.out _).mono ?_
  rintro e w1 ⟨rfl, hb⟩
  have hB1 : Below w.heap.size w w1 := Below.trans (by (repeat' (first | (with_reducible exact Below.refl _ _) | (with_reducible assumption) | (with_reducible refine below_drewN ?_ _) | (with_reducible refine Below.drew ?_) | (with_reducible refine Below.alloc ?_ ?_ _) | (with_reducible refine Below.setCell ?_ ?_ _) | omega | (simp; done) | (simp; omega)))) (hb.mono (by first | omega | (simp; done) | (simp; omega)))
  have k1_0 : Blk w1 (w.heap.size) 44 #[.int .u64 xh, .int .u64 xl] := Blk.below (by (repeat' (first | (with_reducible assumption) | (with_reducible exact Blk.new _ _ _) | (exact Blk.newAt (by first | rfl | (simp; done) | omega)) | (with_reducible refine Blk.drewN ?_ _) | (with_reducible refine Blk.drew ?_) | (with_reducible refine Blk.alloc ?_ _) | (with_reducible apply Blk.set_) | (with_reducible refine Blk.far ?_ ?_ _) | rfl | omega | (simp; done) | (simp; omega)))) hb (by first | omega | (simp; done) | (simp; omega))
  have k1_1 : Blk w1 (w.heap.size + 1) 44 #[.int .u64 yh, .int .u64 yl] := Blk.below (by (repeat' (first | (with_reducible assumption) | (with_reducible exact Blk.new _ _ _) | (exact Blk.newAt (by first | rfl | (simp; done) | omega)) | (with_reducible refine Blk.drewN ?_ _) | (with_reducible refine Blk.drew ?_) | (with_reducible refine Blk.alloc ?_ _) | (with_reducible apply Blk.set_) | (with_reducible refine Blk.far ?_ ?_ _) | rfl | omega | (simp; done) | (simp; omega)))) hb (by first | omega | (simp; done) | (simp; omega))
  have c1_0 := k1_0.cell
  have f1_0 := k1_0.frozen
  have l1_0 := k1_0.lt
  have c1_1 := k1_1.cell
  have f1_1 := k1_1.frozen
  have l1_1 := k1_1.lt
  have l1 := hB1.size
  clear hb
  go_wp2_with fail
  as_aux_lemma =>
    refine (AA2.out _).mono ?_
    rintro e w2 ⟨rfl, hb⟩
    have hB2 : Below w.heap.size w w2 := Below.trans (by (repeat' (first | (with_reducible exact Below.refl _ _) | (with_reducible assumption) | (with_reducible refine below_drewN ?_ _) | (with_reducible refine Below.drew ?_) | (with_reducible refine Below.alloc ?_ ?_ _) | (with_reducible refine Below.setCell ?_ ?_ _) | omega | (simp; done) | (simp; omega)))) (hb.mono (by first | omega | (simp; done) | (simp; omega)))
    have k2_0 : Blk w2 (w.heap.size) 44 #[.int .u64 xh, .int .u64 xl] := Blk.below (by (repeat' (first | (with_reducible assumption) | (with_reducible exact Blk.new _ _ _) | (exact Blk.newAt (by first | rfl | (simp; done) | omega)) | (with_reducible refine Blk.drewN ?_ _) | (with_reducible refine Blk.drew ?_) | (with_reducible refine Blk.alloc ?_ _) | (with_reducible apply Blk.set_) | (with_reducible refine Blk.far ?_ ?_ _) | rfl | omega | (simp; done) | (simp; omega)))) hb (by first | omega | (simp; done) | (simp; omega))
    have k2_1 : Blk w2 (w.heap.size + 1) 44 #[.int .u64 yh, .int .u64 yl] := Blk.below (by (repeat' (first | (with_reducible assumption) | (with_reducible exact Blk.new _ _ _) | (exact Blk.newAt (by first | rfl | (simp; done) | omega)) | (with_reducible refine Blk.drewN ?_ _) | (with_reducible refine Blk.drew ?_) | (with_reducible refine Blk.alloc ?_ _) | (with_reducible apply Blk.set_) | (with_reducible refine Blk.far ?_ ?_ _) | rfl | omega | (simp; done) | (simp; omega)))) hb (by first | omega | (simp; done) | (simp; omega))
    have k2_2 : Blk w2 (w1.heap.size) 44 #[.int .u64 H, .int .u64 L] := Blk.below (by (repeat' (first | (with_reducible assumption) | (with_reducible exact Blk.new _ _ _) | (exact Blk.newAt (by first | rfl | (simp; done) | omega)) | (with_reducible refine Blk.drewN ?_ _) | (with_reducible refine Blk.drew ?_) | (with_reducible refine Blk.alloc ?_ _) | (with_reducible apply Blk.set_) | (with_reducible refine Blk.far ?_ ?_ _) | rfl | omega | (simp; done) | (simp; omega)))) hb (by first | omega | (simp; done) | (simp; omega))
    have c2_0 := k2_0.cell
    have f2_0 := k2_0.frozen
    have l2_0 := k2_0.lt
    have c2_1 := k2_1.cell
    have f2_1 := k2_1.frozen
    have l2_1 := k2_1.lt
    have c2_2 := k2_2.cell
    have f2_2 := k2_2.frozen
    have l2_2 := k2_2.lt
    have l2 := hB2.size
    clear hb k1_0 c1_0 f1_0 l1_0 k1_1 c1_1 f1_1 l1_1 hB1
    go_wp2_with fail
    as_aux_lemma =>
      have x0 := cell_regrown (w := (w2.alloc (.cells #[.int .u64 H, .int .u64 L] 44))) (a := ⟨w.heap.size, 0, none⟩) (v := .int .u64 xh) (by simp [go_sem, *])
      have x1 := cell_regrown (w := (w2.alloc (.cells #[.int .u64 H, .int .u64 L] 44))) (a := ⟨w.heap.size, 1, none⟩) (v := .int .u64 xl) (by simp [go_sem, *])
      have y0 := cell_regrown (w := (w2.alloc (.cells #[.int .u64 H, .int .u64 L] 44))) (a := ⟨w.heap.size + 1, 0, none⟩) (v := .int .u64 yh) (by simp [go_sem, *])
      have y1 := cell_regrown (w := (w2.alloc (.cells #[.int .u64 H, .int .u64 L] 44))) (a := ⟨w.heap.size + 1, 1, none⟩) (v := .int .u64 yl) (by simp [go_sem, *])
      have s0 := cell_regrown (w := (w2.alloc (.cells #[.int .u64 H, .int .u64 L] 44))) (a := ⟨w1.heap.size, 0, none⟩) (v := .int .u64 H) (by simp [go_sem, *])
      have s1 := cell_regrown (w := (w2.alloc (.cells #[.int .u64 H, .int .u64 L] 44))) (a := ⟨w1.heap.size, 1, none⟩) (v := .int .u64 L) (by simp [go_sem, *])
      have t0 := cell_regrown (w := (w2.alloc (.cells #[.int .u64 H, .int .u64 L] 44))) (a := ⟨w2.heap.size, 0, none⟩) (v := .int .u64 H) (by simp [go_sem, *])
      have t1 := cell_regrown (w := (w2.alloc (.cells #[.int .u64 H, .int .u64 L] 44))) (a := ⟨w2.heap.size, 1, none⟩) (v := .int .u64 L) (by simp [go_sem, *])
      refine wp_region_quiet_below (by kernel_rfl) (by kernel_rfl) ?_
      repeat (first | go_big_quiet_step (first | (with_reducible exact M1.out _ _ _) | (with_reducible exact M2.out _ _ _) | (with_reducible exact M3.out _ _ _) | (with_reducible exact M4.out _ _ _) | (with_reducible exact M5.out _ _ _) | (with_reducible exact M6.out _ _ _) | (with_reducible exact M7.out _ _ _) | (with_reducible exact M8.out _ _ _) | (with_reducible exact M9.out _ _ _) | (with_reducible exact M10.out _ _ _)) | quiet_step (first | (with_reducible exact M1.out _ _ _) | (with_reducible exact M2.out _ _ _) | (with_reducible exact M3.out _ _ _) | (with_reducible exact M4.out _ _ _) | (with_reducible exact M5.out _ _ _) | (with_reducible exact M6.out _ _ _) | (with_reducible exact M7.out _ _ _) | (with_reducible exact M8.out _ _ _) | (with_reducible exact M9.out _ _ _) | (with_reducible exact M10.out _ _ _)))
      refine wpQuiet_nil ?_
      intro _ hw'
      obtain ⟨⟨dq, osq⟩, hw''⟩ := hw'
      subst hw''
      go_wp2
      go_ret
      exact ⟨rfl, (hB2.alloc l2 _).trans ((below_regrown _ dq osq).mono (by simp; omega))⟩

set_option maxRecDepth 100000 in
set_option maxHeartbeats 2000000 in
theorem tells_no (a b : Nat) (v : Int) (xh xl yh yl : Nat) (ha : a < lim) (hb0 : b < lim) (v0 : -9223372036854775808 ≤ v) (v1 : v ≤ 9223372036854775807) (h1 : xh < lim) (h2 : xl < lim) (h3 : yh < lim) (h4 : yl < lim) (h : ¬ val xh xl + val yh yl < lim * lim) (w : World) :
    Calls Try.prog 8 #[.int .u64 a, .int .u64 b, .int .i64 v, .agg #[.int .u64 xh, .int .u64 xl], .agg #[.int .u64 yh, .int .u64 yl]] w fun e w' => e = .returned (.bool true) ∧ Below w.heap.size w w' := by
  have a1 := fun w => wadd_no xh xl yh yl h1 h2 h3 h4 h w
  have a2 := fun w => radd_no xh xl yh yl h1 h2 h3 h4 h w
  have m1 : ∀ w d os, Calls Try.prog 21 #[.int .i64 v] (grow (redrawn w d) os) fun e w'' => e = .returned (.int .u64 (v.natAbs : Nat)) ∧ ∃ p : Regrown, w'' = grow (redrawn w p.d) p.os := fun w d os => Calls.regrown_of ((wabs v v0 v1 _).mono fun e w' ⟨p, q⟩ => ⟨p, by rw [← q]; exact RowKit.Below.refl _ _⟩)
  have m2 : ∀ w d os, Calls Try.prog 22 #[.int .i64 v] (grow (redrawn w d) os) fun e w'' => e = .returned (.int .u64 (v.natAbs : Nat)) ∧ ∃ p : Regrown, w'' = grow (redrawn w p.d) p.os := fun w d os => Calls.regrown_of ((rabs v v0 v1 _).mono fun e w' ⟨p, q⟩ => ⟨p, by rw [← q]; exact RowKit.Below.refl _ _⟩)
  have m3 : ∀ w d os, Calls Try.prog 17 #[.int .u64 a, .int .u64 b] (grow (redrawn w d) os) fun e w'' => e = .returned (.agg #[.int .u64 (hiN (a * b) : Nat), .int .u64 (loN (a * b) : Nat)]) ∧ ∃ p : Regrown, w'' = grow (redrawn w p.d) p.os := fun w d os => Calls.regrown_of (wmul a b ha hb0 _)
  have m4 : ∀ w d os, Calls Try.prog 23 #[.int .u64 a, .int .u64 b] (grow (redrawn w d) os) fun e w'' => e = .returned (.agg #[.int .u64 (hiN (a * b) : Nat), .int .u64 (loN (a * b) : Nat)]) ∧ ∃ p : Regrown, w'' = grow (redrawn w p.d) p.os := fun w d os => Calls.regrown_of (rmul a b ha hb0 _)
  have m5 : ∀ w d os, Calls Try.prog 24 #[.int .i64 v] (grow (redrawn w d) os) fun e w'' => e = .returned (.agg #[.int .u64 (hiN (v.natAbs * v.natAbs) : Nat), .int .u64 (loN (v.natAbs * v.natAbs) : Nat)]) ∧ ∃ p : Regrown, w'' = grow (redrawn w p.d) p.os := fun w d os => Calls.regrown_of (wsq v v0 v1 _)
  have m6 : ∀ w d os, Calls Try.prog 25 #[.int .i64 v] (grow (redrawn w d) os) fun e w'' => e = .returned (.agg #[.int .u64 (hiN (v.natAbs * v.natAbs) : Nat), .int .u64 (loN (v.natAbs * v.natAbs) : Nat)]) ∧ ∃ p : Regrown, w'' = grow (redrawn w p.d) p.os := fun w d os => Calls.regrown_of (rsq v v0 v1 _)
  have m7 : ∀ w d os, Calls Try.prog 26 #[.agg #[.int .u64 xh, .int .u64 xl], .agg #[.int .u64 yh, .int .u64 yl]] (grow (redrawn w d) os) fun e w'' => e = .returned (.int .i64 (cmpN (val xh xl) (val yh yl))) ∧ ∃ p : Regrown, w'' = grow (redrawn w p.d) p.os := fun w d os => Calls.regrown_of (wcmp xh xl yh yl h2 h4 _)
  have m8 : ∀ w d os, Calls Try.prog 27 #[.agg #[.int .u64 xh, .int .u64 xl], .agg #[.int .u64 yh, .int .u64 yl]] (grow (redrawn w d) os) fun e w'' => e = .returned (.int .i64 (cmpN (val xh xl) (val yh yl))) ∧ ∃ p : Regrown, w'' = grow (redrawn w p.d) p.os := fun w d os => Calls.regrown_of (rcmp xh xl yh yl h2 h4 _)
  have m9 : ∀ w d os, Calls Try.prog 26 #[.agg #[.int .u64 xh, .int .u64 xl], .agg #[.int .u64 xh, .int .u64 xl]] (grow (redrawn w d) os) fun e w'' => e = .returned (.int .i64 0) ∧ ∃ p : Regrown, w'' = grow (redrawn w p.d) p.os := fun w d os => Calls.regrown_of (by have := wcmp xh xl xh xl h2 h2 (grow (redrawn w d) os); rw [cmp_eq rfl] at this; exact this)
  have m10 : ∀ w d os, Calls Try.prog 19 #[] (grow (redrawn w d) os) fun e w'' => e = .returned (.bool true) ∧ ∃ p : Regrown, w'' = grow (redrawn w p.d) p.os := fun w d os => Calls.regrown_of (awake1 _)
  have AA1 := Lib.hid a1; have AA2 := Lib.hid a2
  clear a1 a2
  have M1 := Lib.hid m1; have M2 := Lib.hid m2; have M3 := Lib.hid m3; have M4 := Lib.hid m4; have M5 := Lib.hid m5
  have M6 := Lib.hid m6; have M7 := Lib.hid m7; have M8 := Lib.hid m8; have M9 := Lib.hid m9; have M10 := Lib.hid m10
  clear m1 m2 m3 m4 m5 m6 m7 m8 m9 m10 h
  generalize cmpN (val xh xl) (val yh yl) = C at *
  generalize hiN (v.natAbs * v.natAbs) = H2 at *
  generalize loN (v.natAbs * v.natAbs) = L2 at *
  generalize hiN (a * b) = H1 at *
  generalize loN (a * b) = L1 at *
  generalize v.natAbs = V at *
  go_enter Try.func8, Try.ntmps8
  go_wp2_with fail
  refine (AA1.out _).mono ?_
  rintro e w1 ⟨rfl, hb⟩
  have hB1 : Below w.heap.size w w1 := Below.trans (by (repeat' (first | (with_reducible exact Below.refl _ _) | (with_reducible assumption) | (with_reducible refine below_drewN ?_ _) | (with_reducible refine Below.drew ?_) | (with_reducible refine Below.alloc ?_ ?_ _) | (with_reducible refine Below.setCell ?_ ?_ _) | omega | (simp; done) | (simp; omega)))) (hb.mono (by first | omega | (simp; done) | (simp; omega)))
  have k1_0 : Blk w1 (w.heap.size) 44 #[.int .u64 xh, .int .u64 xl] := Blk.below (by (repeat' (first | (with_reducible assumption) | (with_reducible exact Blk.new _ _ _) | (exact Blk.newAt (by first | rfl | (simp; done) | omega)) | (with_reducible refine Blk.drewN ?_ _) | (with_reducible refine Blk.drew ?_) | (with_reducible refine Blk.alloc ?_ _) | (with_reducible apply Blk.set_) | (with_reducible refine Blk.far ?_ ?_ _) | rfl | omega | (simp; done) | (simp; omega)))) hb (by first | omega | (simp; done) | (simp; omega))
  have k1_1 : Blk w1 (w.heap.size + 1) 44 #[.int .u64 yh, .int .u64 yl] := Blk.below (by (repeat' (first | (with_reducible assumption) | (with_reducible exact Blk.new _ _ _) | (exact Blk.newAt (by first | rfl | (simp; done) | omega)) | (with_reducible refine Blk.drewN ?_ _) | (with_reducible refine Blk.drew ?_) | (with_reducible refine Blk.alloc ?_ _) | (with_reducible apply Blk.set_) | (with_reducible refine Blk.far ?_ ?_ _) | rfl | omega | (simp; done) | (simp; omega)))) hb (by first | omega | (simp; done) | (simp; omega))
  have c1_0 := k1_0.cell
  have f1_0 := k1_0.frozen
  have l1_0 := k1_0.lt
  have c1_1 := k1_1.cell
  have f1_1 := k1_1.frozen
  have l1_1 := k1_1.lt
  have l1 := hB1.size
  clear hb
  go_wp2_with fail
  as_aux_lemma =>
    refine (AA2.out _).mono ?_
    rintro e w2 ⟨rfl, hb⟩
    have hB2 : Below w.heap.size w w2 := Below.trans (by (repeat' (first | (with_reducible exact Below.refl _ _) | (with_reducible assumption) | (with_reducible refine below_drewN ?_ _) | (with_reducible refine Below.drew ?_) | (with_reducible refine Below.alloc ?_ ?_ _) | (with_reducible refine Below.setCell ?_ ?_ _) | omega | (simp; done) | (simp; omega)))) (hb.mono (by first | omega | (simp; done) | (simp; omega)))
    have k2_0 : Blk w2 (w.heap.size) 44 #[.int .u64 xh, .int .u64 xl] := Blk.below (by (repeat' (first | (with_reducible assumption) | (with_reducible exact Blk.new _ _ _) | (exact Blk.newAt (by first | rfl | (simp; done) | omega)) | (with_reducible refine Blk.drewN ?_ _) | (with_reducible refine Blk.drew ?_) | (with_reducible refine Blk.alloc ?_ _) | (with_reducible apply Blk.set_) | (with_reducible refine Blk.far ?_ ?_ _) | rfl | omega | (simp; done) | (simp; omega)))) hb (by first | omega | (simp; done) | (simp; omega))
    have k2_1 : Blk w2 (w.heap.size + 1) 44 #[.int .u64 yh, .int .u64 yl] := Blk.below (by (repeat' (first | (with_reducible assumption) | (with_reducible exact Blk.new _ _ _) | (exact Blk.newAt (by first | rfl | (simp; done) | omega)) | (with_reducible refine Blk.drewN ?_ _) | (with_reducible refine Blk.drew ?_) | (with_reducible refine Blk.alloc ?_ _) | (with_reducible apply Blk.set_) | (with_reducible refine Blk.far ?_ ?_ _) | rfl | omega | (simp; done) | (simp; omega)))) hb (by first | omega | (simp; done) | (simp; omega))
    have k2_2 : Blk w2 (w1.heap.size) 44 #[.int .u64 0, .int .u64 0] := Blk.below (by (repeat' (first | (with_reducible assumption) | (with_reducible exact Blk.new _ _ _) | (exact Blk.newAt (by first | rfl | (simp; done) | omega)) | (with_reducible refine Blk.drewN ?_ _) | (with_reducible refine Blk.drew ?_) | (with_reducible refine Blk.alloc ?_ _) | (with_reducible apply Blk.set_) | (with_reducible refine Blk.far ?_ ?_ _) | rfl | omega | (simp; done) | (simp; omega)))) hb (by first | omega | (simp; done) | (simp; omega))
    have c2_0 := k2_0.cell
    have f2_0 := k2_0.frozen
    have l2_0 := k2_0.lt
    have c2_1 := k2_1.cell
    have f2_1 := k2_1.frozen
    have l2_1 := k2_1.lt
    have c2_2 := k2_2.cell
    have f2_2 := k2_2.frozen
    have l2_2 := k2_2.lt
    have l2 := hB2.size
    clear hb k1_0 c1_0 f1_0 l1_0 k1_1 c1_1 f1_1 l1_1 hB1
    go_wp2_with fail
    as_aux_lemma =>
      have x0 := cell_regrown (w := (w2.alloc (.cells #[.int .u64 0, .int .u64 0] 44))) (a := ⟨w.heap.size, 0, none⟩) (v := .int .u64 xh) (by simp [go_sem, *])
      have x1 := cell_regrown (w := (w2.alloc (.cells #[.int .u64 0, .int .u64 0] 44))) (a := ⟨w.heap.size, 1, none⟩) (v := .int .u64 xl) (by simp [go_sem, *])
      have y0 := cell_regrown (w := (w2.alloc (.cells #[.int .u64 0, .int .u64 0] 44))) (a := ⟨w.heap.size + 1, 0, none⟩) (v := .int .u64 yh) (by simp [go_sem, *])
      have y1 := cell_regrown (w := (w2.alloc (.cells #[.int .u64 0, .int .u64 0] 44))) (a := ⟨w.heap.size + 1, 1, none⟩) (v := .int .u64 yl) (by simp [go_sem, *])
      have s0 := cell_regrown (w := (w2.alloc (.cells #[.int .u64 0, .int .u64 0] 44))) (a := ⟨w1.heap.size, 0, none⟩) (v := .int .u64 0) (by simp [go_sem, *])
      have s1 := cell_regrown (w := (w2.alloc (.cells #[.int .u64 0, .int .u64 0] 44))) (a := ⟨w1.heap.size, 1, none⟩) (v := .int .u64 0) (by simp [go_sem, *])
      have t0 := cell_regrown (w := (w2.alloc (.cells #[.int .u64 0, .int .u64 0] 44))) (a := ⟨w2.heap.size, 0, none⟩) (v := .int .u64 0) (by simp [go_sem, *])
      have t1 := cell_regrown (w := (w2.alloc (.cells #[.int .u64 0, .int .u64 0] 44))) (a := ⟨w2.heap.size, 1, none⟩) (v := .int .u64 0) (by simp [go_sem, *])
      refine wp_region_quiet_below (by kernel_rfl) (by kernel_rfl) ?_
      repeat (first | go_big_quiet_step (first | (with_reducible exact M1.out _ _ _) | (with_reducible exact M2.out _ _ _) | (with_reducible exact M3.out _ _ _) | (with_reducible exact M4.out _ _ _) | (with_reducible exact M5.out _ _ _) | (with_reducible exact M6.out _ _ _) | (with_reducible exact M7.out _ _ _) | (with_reducible exact M8.out _ _ _) | (with_reducible exact M9.out _ _ _) | (with_reducible exact M10.out _ _ _)) | quiet_step (first | (with_reducible exact M1.out _ _ _) | (with_reducible exact M2.out _ _ _) | (with_reducible exact M3.out _ _ _) | (with_reducible exact M4.out _ _ _) | (with_reducible exact M5.out _ _ _) | (with_reducible exact M6.out _ _ _) | (with_reducible exact M7.out _ _ _) | (with_reducible exact M8.out _ _ _) | (with_reducible exact M9.out _ _ _) | (with_reducible exact M10.out _ _ _)))
      refine wpQuiet_nil ?_
      intro _ hw'
      obtain ⟨⟨dq, osq⟩, hw''⟩ := hw'
      subst hw''
      go_wp2
      go_ret
      exact ⟨rfl, (hB2.alloc l2 _).trans ((below_regrown _ dq osq).mono (by simp; omega))⟩

theorem tells (a b : Nat) (v : Int) (xh xl yh yl : Nat) (ha : a < lim) (hb0 : b < lim) (v0 : -9223372036854775808 ≤ v) (v1 : v ≤ 9223372036854775807) (h1 : xh < lim) (h2 : xl < lim) (h3 : yh < lim) (h4 : yl < lim) (w : World) :
    Calls Try.prog 8 #[.int .u64 a, .int .u64 b, .int .i64 v, .agg #[.int .u64 xh, .int .u64 xl], .agg #[.int .u64 yh, .int .u64 yl]] w fun e w' => e = .returned (.bool true) ∧ Below w.heap.size w w' :=
  if h : val xh xl + val yh yl < lim * lim then tells_yes a b v xh xl yh yl ha hb0 v0 v1 h1 h2 h3 h4 h w else tells_no a b v xh xl yh yl ha hb0 v0 v1 h1 h2 h3 h4 h w
end Go.Proofs.Ytgbkanbahclnhaa
