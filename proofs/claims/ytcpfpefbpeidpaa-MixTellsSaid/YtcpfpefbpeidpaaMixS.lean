/- What mix.Over and the reference's Over return, at any arguments. -/
import Derived.Test.YtcpfpefbpeidpaaMixR
namespace Go.Proofs.Ytcpfpefbpeidpaa
open Go.RowKit
set_option linter.unusedVariables false

/-- The arguments that may be. -/
def OverMay (tl th c al vl vh n : Int) : Prop := 0 ≤ c ∧ c ≤ 255 ∧ 0 ≤ al ∧ al ≤ 255 ∧ CovMay vl vh n ∧ ToneMay tl th
instance (tl th c al vl vh n : Int) : Decidable (OverMay tl th c al vl vh n) := by unfold OverMay; infer_instance
def overL (tl th c al vl vh n : Int) : Int := if OverMay tl th c al vl vh n then loOf (255 * n) (65536 * c) tl (al * vl) (al * vh) else 0
def overH (tl th c al vl vh n : Int) : Int := if OverMay tl th c al vl vh n then hiOf (255 * n) (65536 * c) th (al * vl) (al * vh) else 0
def OverAny (tl th c al vl vh n : Int) (w : World) (e : Ending) (w' : World) : Prop :=
  e = .returned (.tuple #[.agg #[.int .i64 (overL tl th c al vl vh n), .int .i64 (overH tl th c al vl vh n)], .bool (decide (OverMay tl th c al vl vh n))]) ∧ Below w.heap.size w w'
theorem overAny_no {tl th c al vl vh n : Int} {w w' : World} (h : ¬ OverMay tl th c al vl vh n) (hb : Below w.heap.size w w') : OverAny tl th c al vl vh n w (.returned (.tuple #[.agg #[.int .i64 0, .int .i64 0], .bool false])) w' := by
  unfold OverAny overL overH; rw [if_neg h, if_neg h, decide_eq_false h]; exact ⟨rfl, hb⟩
theorem overAny_yes {tl th c al vl vh n : Int} {w w' : World} (h : OverMay tl th c al vl vh n) (hb : Below w.heap.size w w') :
    OverAny tl th c al vl vh n w (.returned (.tuple #[.agg #[.int .i64 (loOf (255 * n) (65536 * c) tl (al * vl) (al * vh)), .int .i64 (hiOf (255 * n) (65536 * c) th (al * vl) (al * vh))], .bool true])) w' := by
  unfold OverAny overL overH; rw [if_pos h, if_pos h, decide_eq_true h]; exact ⟨rfl, hb⟩
theorem overR (tl th c al vl vh n : Int) (t0 : 0 ≤ tl) (t1 : tl ≤ th) (t2 : th ≤ 16711680) (c0 : 0 ≤ c) (c1 : c ≤ 255) (a0 : 0 ≤ al) (a1 : al ≤ 255) (n0 : 1 ≤ n) (n1 : n ≤ 4096) (v0 : 0 ≤ vl) (v1 : vl ≤ vh) (v2 : vh ≤ n) (w : World) :
    Calls Try.prog 17 #[.agg #[.int .i64 tl, .int .i64 th], .int .i64 c, .int .i64 al, .agg #[.int .i64 vl, .int .i64 vh], .int .i64 n] w fun e w' =>
      e = .returned (.tuple #[.agg #[.int .i64 (loOf (255 * n) (65536 * c) tl (al * vl) (al * vh)), .int .i64 (hiOf (255 * n) (65536 * c) th (al * vl) (al * vh))], .bool true]) ∧ Below w.heap.size w w' := by
  have w0 := Int.mul_nonneg a0 v0
  have w1 : al * vl ≤ al * vh := Int.mul_le_mul_of_nonneg_left v1 a0
  have w2 : al * vh ≤ 255 * n := Int.mul_le_mul a1 v2 (by omega) (by omega)
  have bA : ∀ b W : Int, 0 ≤ b → b ≤ 16711680 → 0 ≤ W → W ≤ 255 * n → 0 ≤ b * (255 * n - W) ∧ b * (255 * n - W) ≤ 17592186044416 := by
    intro b W hb0 hb1 hW0 hW1
    have h1 := Int.mul_nonneg hb0 (show 0 ≤ 255 * n - W by omega)
    have h2 : b * (255 * n - W) ≤ 16711680 * 1044480 := Int.mul_le_mul hb1 (by omega) (by omega) (by omega)
    omega
  have bB : ∀ W : Int, 0 ≤ W → W ≤ 255 * n → 0 ≤ 65536 * c * W ∧ 65536 * c * W ≤ 17592186044416 := by
    intro W hW0 hW1
    have h1 := Int.mul_nonneg (show 0 ≤ 65536 * c by omega) hW0
    have h2 : 65536 * c * W ≤ 16711680 * 1044480 := Int.mul_le_mul (by omega) (by omega) (by omega) (by omega)
    omega
  have o1 : tl * (255 * n - al * vl) ≤ th * (255 * n - al * vl) := Int.mul_le_mul_of_nonneg_right t1 (by omega)
  have o2 : tl * (255 * n - al * vh) ≤ th * (255 * n - al * vh) := Int.mul_le_mul_of_nonneg_right t1 (by omega)
  obtain ⟨f1, f2⟩ := bA tl (al * vl) t0 (by omega) w0 (by omega)
  obtain ⟨f3, f4⟩ := bA th (al * vl) (by omega) t2 w0 (by omega)
  obtain ⟨f5, f6⟩ := bA tl (al * vh) t0 (by omega) (by omega) w2
  obtain ⟨f7, f8⟩ := bA th (al * vh) (by omega) t2 (by omega) w2
  obtain ⟨g0, g1⟩ := bB (al * vl) w0 (by omega)
  obtain ⟨g2, g3⟩ := bB (al * vh) (by omega) w2
  have h := overR_core tl th c al vl vh n (255 * n) (65536 * c) (al * vl) (al * vh) _ _ _ _ _ _ t0 t1 t2 c0 c1 a0 a1 n0 n1 v0 v1 v2 rfl rfl rfl rfl rfl rfl rfl rfl rfl rfl w0 w1 w2 f1 f2 f3 f4 f5 f6 f7 f8 o1 o2 g0 g1 g2 g3 w
  exact h

set_option maxRecDepth 100000 in
set_option maxHeartbeats 4000000 in
theorem over_any (tl th c al vl vh n : Int) (w : World) :
    Calls Try.prog 15 #[.agg #[.int .i64 tl, .int .i64 th], .int .i64 c, .int .i64 al, .agg #[.int .i64 vl, .int .i64 vh], .int .i64 n] w (OverAny tl th c al vl vh n w) := by
  by_cases h : OverMay tl th c al vl vh n
  · obtain ⟨c0, c1, a0, a1, ⟨n0, n1, v0, v1, v2⟩, t0, t1, t2⟩ := id h
    refine (over tl th c al vl vh n t0 t1 t2 c0 c1 a0 a1 n0 n1 v0 v1 v2 w).mono ?_
    rintro e w1 ⟨rfl, hb⟩
    exact overAny_yes h hb
  have hN := Lib.hid h
  by_cases h1 : c < 0
  · clear h
    go_enter Try.func15, Try.ntmps15
    go_wp2_with fail
    exact bodyPost_ret (v := .tuple #[.agg #[.int .i64 0, .int .i64 0], .bool false]) (by simp [results, Try.results15, go_sem]) rfl (overAny_no hN.out (by (repeat' (first | (with_reducible exact Below.refl _ _) | (with_reducible assumption) | (with_reducible refine below_drewN ?_ _) | (with_reducible refine Below.drew ?_) | (with_reducible refine Below.alloc ?_ ?_ _) | (with_reducible refine Below.setCell ?_ ?_ _) | omega | (simp; done) | (simp; omega)))))
  have c0 : 0 ≤ c := by omega
  by_cases h2 : 255 < c
  · clear h h1
    go_enter Try.func15, Try.ntmps15
    go_wp2_with fail
    exact bodyPost_ret (v := .tuple #[.agg #[.int .i64 0, .int .i64 0], .bool false]) (by simp [results, Try.results15, go_sem]) rfl (overAny_no hN.out (by (repeat' (first | (with_reducible exact Below.refl _ _) | (with_reducible assumption) | (with_reducible refine below_drewN ?_ _) | (with_reducible refine Below.drew ?_) | (with_reducible refine Below.alloc ?_ ?_ _) | (with_reducible refine Below.setCell ?_ ?_ _) | omega | (simp; done) | (simp; omega)))))
  have c1 : c ≤ 255 := by omega
  by_cases h3 : al < 0
  · clear h h1 h2
    go_enter Try.func15, Try.ntmps15
    go_wp2_with fail
    exact bodyPost_ret (v := .tuple #[.agg #[.int .i64 0, .int .i64 0], .bool false]) (by simp [results, Try.results15, go_sem]) rfl (overAny_no hN.out (by (repeat' (first | (with_reducible exact Below.refl _ _) | (with_reducible assumption) | (with_reducible refine below_drewN ?_ _) | (with_reducible refine Below.drew ?_) | (with_reducible refine Below.alloc ?_ ?_ _) | (with_reducible refine Below.setCell ?_ ?_ _) | omega | (simp; done) | (simp; omega)))))
  have a0 : 0 ≤ al := by omega
  by_cases h4 : 255 < al
  · clear h h1 h2 h3
    go_enter Try.func15, Try.ntmps15
    go_wp2_with fail
    exact bodyPost_ret (v := .tuple #[.agg #[.int .i64 0, .int .i64 0], .bool false]) (by simp [results, Try.results15, go_sem]) rfl (overAny_no hN.out (by (repeat' (first | (with_reducible exact Below.refl _ _) | (with_reducible assumption) | (with_reducible refine below_drewN ?_ _) | (with_reducible refine Below.drew ?_) | (with_reducible refine Below.alloc ?_ ?_ _) | (with_reducible refine Below.setCell ?_ ?_ _) | omega | (simp; done) | (simp; omega)))))
  have a1 : al ≤ 255 := by omega
  clear h1 h2 h3 h4
  have m1 := fun w => covmay vl vh n w
  have m2 := fun w => tonemay tl th w
  by_cases h5 : CovMay vl vh n
  · have h6 : ¬ ToneMay tl th := fun h6 => h ⟨c0, c1, a0, a1, h5, h6⟩
    rw [decide_eq_true h5] at m1
    rw [decide_eq_false h6] at m2
    have M1 := Lib.hid m1
    have M2 := Lib.hid m2
    clear m1 m2 h h5 h6
    go_enter Try.func15, Try.ntmps15
    go_wp2_with fail
    refine (M1.out _).mono ?_
    rintro e w1 ⟨rfl, hb⟩
    have hB1 : Below w.heap.size w w1 := Below.trans (by (repeat' (first | (with_reducible exact Below.refl _ _) | (with_reducible assumption) | (with_reducible refine below_drewN ?_ _) | (with_reducible refine Below.drew ?_) | (with_reducible refine Below.alloc ?_ ?_ _) | (with_reducible refine Below.setCell ?_ ?_ _) | omega | (simp; done) | (simp; omega)))) (hb.mono (by first | omega | (simp; done) | (simp; omega)))
    have k1_0 : Blk w1 (w.heap.size) 34 #[.int .i64 tl, .int .i64 th] := Blk.below (by (repeat' (first | (with_reducible assumption) | (with_reducible exact Blk.new _ _ _) | (exact Blk.newAt (by first | rfl | (simp; done) | omega)) | (with_reducible refine Blk.drewN ?_ _) | (with_reducible refine Blk.drew ?_) | (with_reducible refine Blk.alloc ?_ _) | (with_reducible apply Blk.set_) | (with_reducible refine Blk.far ?_ ?_ _) | rfl | omega | (simp; done) | (simp; omega)))) hb (by first | omega | (simp; done) | (simp; omega))
    have k1_1 : Blk w1 (w.heap.size + 1) 38 #[.int .i64 vl, .int .i64 vh] := Blk.below (by (repeat' (first | (with_reducible assumption) | (with_reducible exact Blk.new _ _ _) | (exact Blk.newAt (by first | rfl | (simp; done) | omega)) | (with_reducible refine Blk.drewN ?_ _) | (with_reducible refine Blk.drew ?_) | (with_reducible refine Blk.alloc ?_ _) | (with_reducible apply Blk.set_) | (with_reducible refine Blk.far ?_ ?_ _) | rfl | omega | (simp; done) | (simp; omega)))) hb (by first | omega | (simp; done) | (simp; omega))
    have k1_2 : Blk w1 (w.heap.size + 1 + 1) 34 #[.int .i64 0, .int .i64 0] := Blk.below (by (repeat' (first | (with_reducible assumption) | (with_reducible exact Blk.new _ _ _) | (exact Blk.newAt (by first | rfl | (simp; done) | omega)) | (with_reducible refine Blk.drewN ?_ _) | (with_reducible refine Blk.drew ?_) | (with_reducible refine Blk.alloc ?_ _) | (with_reducible apply Blk.set_) | (with_reducible refine Blk.far ?_ ?_ _) | rfl | omega | (simp; done) | (simp; omega)))) hb (by first | omega | (simp; done) | (simp; omega))
    have c1_0 := k1_0.cell
    have f1_0 := k1_0.frozen
    have l1_0 := k1_0.lt
    have c1_1 := k1_1.cell
    have f1_1 := k1_1.frozen
    have l1_1 := k1_1.lt
    have c1_2 := k1_2.cell
    have f1_2 := k1_2.frozen
    have l1_2 := k1_2.lt
    have l1 := hB1.size
    clear hb
    go_wp2_with fail
    refine (M2.out _).mono ?_
    rintro e w2 ⟨rfl, hb⟩
    have hB2 : Below w.heap.size w w2 := Below.trans (by (repeat' (first | (with_reducible exact Below.refl _ _) | (with_reducible assumption) | (with_reducible refine below_drewN ?_ _) | (with_reducible refine Below.drew ?_) | (with_reducible refine Below.alloc ?_ ?_ _) | (with_reducible refine Below.setCell ?_ ?_ _) | omega | (simp; done) | (simp; omega)))) (hb.mono (by first | omega | (simp; done) | (simp; omega)))
    have k2_0 : Blk w2 (w.heap.size + 1 + 1) 34 #[.int .i64 0, .int .i64 0] := Blk.below (by (repeat' (first | (with_reducible assumption) | (with_reducible exact Blk.new _ _ _) | (exact Blk.newAt (by first | rfl | (simp; done) | omega)) | (with_reducible refine Blk.drewN ?_ _) | (with_reducible refine Blk.drew ?_) | (with_reducible refine Blk.alloc ?_ _) | (with_reducible apply Blk.set_) | (with_reducible refine Blk.far ?_ ?_ _) | rfl | omega | (simp; done) | (simp; omega)))) hb (by first | omega | (simp; done) | (simp; omega))
    have c2_0 := k2_0.cell
    have f2_0 := k2_0.frozen
    have l2_0 := k2_0.lt
    have l2 := hB2.size
    clear hb k1_0 c1_0 f1_0 l1_0 k1_1 c1_1 f1_1 l1_1 k1_2 c1_2 f1_2 l1_2 hB1 l1
    go_wp2_with fail
    exact bodyPost_ret (v := .tuple #[.agg #[.int .i64 0, .int .i64 0], .bool false]) (by simp [results, Try.results15, go_sem, c2_0]) rfl (overAny_no hN.out (by (repeat' (first | (with_reducible exact Below.refl _ _) | (with_reducible assumption) | (with_reducible refine below_drewN ?_ _) | (with_reducible refine Below.drew ?_) | (with_reducible refine Below.alloc ?_ ?_ _) | (with_reducible refine Below.setCell ?_ ?_ _) | omega | (simp; done) | (simp; omega)))))
  · rw [decide_eq_false h5] at m1
    have M1 := Lib.hid m1
    clear m1 m2 h h5
    go_enter Try.func15, Try.ntmps15
    go_wp2_with fail
    refine (M1.out _).mono ?_
    rintro e w1 ⟨rfl, hb⟩
    have hB1 : Below w.heap.size w w1 := Below.trans (by (repeat' (first | (with_reducible exact Below.refl _ _) | (with_reducible assumption) | (with_reducible refine below_drewN ?_ _) | (with_reducible refine Below.drew ?_) | (with_reducible refine Below.alloc ?_ ?_ _) | (with_reducible refine Below.setCell ?_ ?_ _) | omega | (simp; done) | (simp; omega)))) (hb.mono (by first | omega | (simp; done) | (simp; omega)))
    have k1_0 : Blk w1 (w.heap.size + 1 + 1) 34 #[.int .i64 0, .int .i64 0] := Blk.below (by (repeat' (first | (with_reducible assumption) | (with_reducible exact Blk.new _ _ _) | (exact Blk.newAt (by first | rfl | (simp; done) | omega)) | (with_reducible refine Blk.drewN ?_ _) | (with_reducible refine Blk.drew ?_) | (with_reducible refine Blk.alloc ?_ _) | (with_reducible apply Blk.set_) | (with_reducible refine Blk.far ?_ ?_ _) | rfl | omega | (simp; done) | (simp; omega)))) hb (by first | omega | (simp; done) | (simp; omega))
    have c1_0 := k1_0.cell
    have f1_0 := k1_0.frozen
    have l1_0 := k1_0.lt
    have l1 := hB1.size
    clear hb
    go_wp2_with fail
    exact bodyPost_ret (v := .tuple #[.agg #[.int .i64 0, .int .i64 0], .bool false]) (by simp [results, Try.results15, go_sem, c1_0]) rfl (overAny_no hN.out (by (repeat' (first | (with_reducible exact Below.refl _ _) | (with_reducible assumption) | (with_reducible refine below_drewN ?_ _) | (with_reducible refine Below.drew ?_) | (with_reducible refine Below.alloc ?_ ?_ _) | (with_reducible refine Below.setCell ?_ ?_ _) | omega | (simp; done) | (simp; omega)))))

set_option maxRecDepth 100000 in
set_option maxHeartbeats 4000000 in
theorem overR_any (tl th c al vl vh n : Int) (w : World) :
    Calls Try.prog 17 #[.agg #[.int .i64 tl, .int .i64 th], .int .i64 c, .int .i64 al, .agg #[.int .i64 vl, .int .i64 vh], .int .i64 n] w (OverAny tl th c al vl vh n w) := by
  by_cases h : OverMay tl th c al vl vh n
  · obtain ⟨c0, c1, a0, a1, ⟨n0, n1, v0, v1, v2⟩, t0, t1, t2⟩ := id h
    refine (overR tl th c al vl vh n t0 t1 t2 c0 c1 a0 a1 n0 n1 v0 v1 v2 w).mono ?_
    rintro e w1 ⟨rfl, hb⟩
    exact overAny_yes h hb
  have hN := Lib.hid h
  by_cases h1 : c < 0
  · clear h
    go_enter Try.func17, Try.ntmps17
    go_wp2_with fail
    exact bodyPost_ret (v := .tuple #[.agg #[.int .i64 0, .int .i64 0], .bool false]) (by simp [results, Try.results17, go_sem]) rfl (overAny_no hN.out (by (repeat' (first | (with_reducible exact Below.refl _ _) | (with_reducible assumption) | (with_reducible refine below_drewN ?_ _) | (with_reducible refine Below.drew ?_) | (with_reducible refine Below.alloc ?_ ?_ _) | (with_reducible refine Below.setCell ?_ ?_ _) | omega | (simp; done) | (simp; omega)))))
  have c0 : 0 ≤ c := by omega
  by_cases h2 : 255 < c
  · clear h h1
    go_enter Try.func17, Try.ntmps17
    go_wp2_with fail
    exact bodyPost_ret (v := .tuple #[.agg #[.int .i64 0, .int .i64 0], .bool false]) (by simp [results, Try.results17, go_sem]) rfl (overAny_no hN.out (by (repeat' (first | (with_reducible exact Below.refl _ _) | (with_reducible assumption) | (with_reducible refine below_drewN ?_ _) | (with_reducible refine Below.drew ?_) | (with_reducible refine Below.alloc ?_ ?_ _) | (with_reducible refine Below.setCell ?_ ?_ _) | omega | (simp; done) | (simp; omega)))))
  have c1 : c ≤ 255 := by omega
  by_cases h3 : al < 0
  · clear h h1 h2
    go_enter Try.func17, Try.ntmps17
    go_wp2_with fail
    exact bodyPost_ret (v := .tuple #[.agg #[.int .i64 0, .int .i64 0], .bool false]) (by simp [results, Try.results17, go_sem]) rfl (overAny_no hN.out (by (repeat' (first | (with_reducible exact Below.refl _ _) | (with_reducible assumption) | (with_reducible refine below_drewN ?_ _) | (with_reducible refine Below.drew ?_) | (with_reducible refine Below.alloc ?_ ?_ _) | (with_reducible refine Below.setCell ?_ ?_ _) | omega | (simp; done) | (simp; omega)))))
  have a0 : 0 ≤ al := by omega
  by_cases h4 : 255 < al
  · clear h h1 h2 h3
    go_enter Try.func17, Try.ntmps17
    go_wp2_with fail
    exact bodyPost_ret (v := .tuple #[.agg #[.int .i64 0, .int .i64 0], .bool false]) (by simp [results, Try.results17, go_sem]) rfl (overAny_no hN.out (by (repeat' (first | (with_reducible exact Below.refl _ _) | (with_reducible assumption) | (with_reducible refine below_drewN ?_ _) | (with_reducible refine Below.drew ?_) | (with_reducible refine Below.alloc ?_ ?_ _) | (with_reducible refine Below.setCell ?_ ?_ _) | omega | (simp; done) | (simp; omega)))))
  have a1 : al ≤ 255 := by omega
  clear h1 h2 h3 h4
  have m1 := fun w => covmayR vl vh n w
  have m2 := fun w => tonemayR tl th w
  by_cases h5 : CovMay vl vh n
  · have h6 : ¬ ToneMay tl th := fun h6 => h ⟨c0, c1, a0, a1, h5, h6⟩
    rw [decide_eq_true h5] at m1
    rw [decide_eq_false h6] at m2
    have M1 := Lib.hid m1
    have M2 := Lib.hid m2
    clear m1 m2 h h5 h6
    go_enter Try.func17, Try.ntmps17
    go_wp2_with fail
    refine (M1.out _).mono ?_
    rintro e w1 ⟨rfl, hb⟩
    have hB1 : Below w.heap.size w w1 := Below.trans (by (repeat' (first | (with_reducible exact Below.refl _ _) | (with_reducible assumption) | (with_reducible refine below_drewN ?_ _) | (with_reducible refine Below.drew ?_) | (with_reducible refine Below.alloc ?_ ?_ _) | (with_reducible refine Below.setCell ?_ ?_ _) | omega | (simp; done) | (simp; omega)))) (hb.mono (by first | omega | (simp; done) | (simp; omega)))
    have k1_0 : Blk w1 (w.heap.size) 34 #[.int .i64 tl, .int .i64 th] := Blk.below (by (repeat' (first | (with_reducible assumption) | (with_reducible exact Blk.new _ _ _) | (exact Blk.newAt (by first | rfl | (simp; done) | omega)) | (with_reducible refine Blk.drewN ?_ _) | (with_reducible refine Blk.drew ?_) | (with_reducible refine Blk.alloc ?_ _) | (with_reducible apply Blk.set_) | (with_reducible refine Blk.far ?_ ?_ _) | rfl | omega | (simp; done) | (simp; omega)))) hb (by first | omega | (simp; done) | (simp; omega))
    have k1_1 : Blk w1 (w.heap.size + 1) 38 #[.int .i64 vl, .int .i64 vh] := Blk.below (by (repeat' (first | (with_reducible assumption) | (with_reducible exact Blk.new _ _ _) | (exact Blk.newAt (by first | rfl | (simp; done) | omega)) | (with_reducible refine Blk.drewN ?_ _) | (with_reducible refine Blk.drew ?_) | (with_reducible refine Blk.alloc ?_ _) | (with_reducible apply Blk.set_) | (with_reducible refine Blk.far ?_ ?_ _) | rfl | omega | (simp; done) | (simp; omega)))) hb (by first | omega | (simp; done) | (simp; omega))
    have k1_2 : Blk w1 (w.heap.size + 1 + 1) 34 #[.int .i64 0, .int .i64 0] := Blk.below (by (repeat' (first | (with_reducible assumption) | (with_reducible exact Blk.new _ _ _) | (exact Blk.newAt (by first | rfl | (simp; done) | omega)) | (with_reducible refine Blk.drewN ?_ _) | (with_reducible refine Blk.drew ?_) | (with_reducible refine Blk.alloc ?_ _) | (with_reducible apply Blk.set_) | (with_reducible refine Blk.far ?_ ?_ _) | rfl | omega | (simp; done) | (simp; omega)))) hb (by first | omega | (simp; done) | (simp; omega))
    have c1_0 := k1_0.cell
    have f1_0 := k1_0.frozen
    have l1_0 := k1_0.lt
    have c1_1 := k1_1.cell
    have f1_1 := k1_1.frozen
    have l1_1 := k1_1.lt
    have c1_2 := k1_2.cell
    have f1_2 := k1_2.frozen
    have l1_2 := k1_2.lt
    have l1 := hB1.size
    clear hb
    go_wp2_with fail
    refine (M2.out _).mono ?_
    rintro e w2 ⟨rfl, hb⟩
    have hB2 : Below w.heap.size w w2 := Below.trans (by (repeat' (first | (with_reducible exact Below.refl _ _) | (with_reducible assumption) | (with_reducible refine below_drewN ?_ _) | (with_reducible refine Below.drew ?_) | (with_reducible refine Below.alloc ?_ ?_ _) | (with_reducible refine Below.setCell ?_ ?_ _) | omega | (simp; done) | (simp; omega)))) (hb.mono (by first | omega | (simp; done) | (simp; omega)))
    have k2_0 : Blk w2 (w.heap.size + 1 + 1) 34 #[.int .i64 0, .int .i64 0] := Blk.below (by (repeat' (first | (with_reducible assumption) | (with_reducible exact Blk.new _ _ _) | (exact Blk.newAt (by first | rfl | (simp; done) | omega)) | (with_reducible refine Blk.drewN ?_ _) | (with_reducible refine Blk.drew ?_) | (with_reducible refine Blk.alloc ?_ _) | (with_reducible apply Blk.set_) | (with_reducible refine Blk.far ?_ ?_ _) | rfl | omega | (simp; done) | (simp; omega)))) hb (by first | omega | (simp; done) | (simp; omega))
    have c2_0 := k2_0.cell
    have f2_0 := k2_0.frozen
    have l2_0 := k2_0.lt
    have l2 := hB2.size
    clear hb k1_0 c1_0 f1_0 l1_0 k1_1 c1_1 f1_1 l1_1 k1_2 c1_2 f1_2 l1_2 hB1 l1
    go_wp2_with fail
    exact bodyPost_ret (v := .tuple #[.agg #[.int .i64 0, .int .i64 0], .bool false]) (by simp [results, Try.results17, go_sem, c2_0]) rfl (overAny_no hN.out (by (repeat' (first | (with_reducible exact Below.refl _ _) | (with_reducible assumption) | (with_reducible refine below_drewN ?_ _) | (with_reducible refine Below.drew ?_) | (with_reducible refine Below.alloc ?_ ?_ _) | (with_reducible refine Below.setCell ?_ ?_ _) | omega | (simp; done) | (simp; omega)))))
  · rw [decide_eq_false h5] at m1
    have M1 := Lib.hid m1
    clear m1 m2 h h5
    go_enter Try.func17, Try.ntmps17
    go_wp2_with fail
    refine (M1.out _).mono ?_
    rintro e w1 ⟨rfl, hb⟩
    have hB1 : Below w.heap.size w w1 := Below.trans (by (repeat' (first | (with_reducible exact Below.refl _ _) | (with_reducible assumption) | (with_reducible refine below_drewN ?_ _) | (with_reducible refine Below.drew ?_) | (with_reducible refine Below.alloc ?_ ?_ _) | (with_reducible refine Below.setCell ?_ ?_ _) | omega | (simp; done) | (simp; omega)))) (hb.mono (by first | omega | (simp; done) | (simp; omega)))
    have k1_0 : Blk w1 (w.heap.size + 1 + 1) 34 #[.int .i64 0, .int .i64 0] := Blk.below (by (repeat' (first | (with_reducible assumption) | (with_reducible exact Blk.new _ _ _) | (exact Blk.newAt (by first | rfl | (simp; done) | omega)) | (with_reducible refine Blk.drewN ?_ _) | (with_reducible refine Blk.drew ?_) | (with_reducible refine Blk.alloc ?_ _) | (with_reducible apply Blk.set_) | (with_reducible refine Blk.far ?_ ?_ _) | rfl | omega | (simp; done) | (simp; omega)))) hb (by first | omega | (simp; done) | (simp; omega))
    have c1_0 := k1_0.cell
    have f1_0 := k1_0.frozen
    have l1_0 := k1_0.lt
    have l1 := hB1.size
    clear hb
    go_wp2_with fail
    exact bodyPost_ret (v := .tuple #[.agg #[.int .i64 0, .int .i64 0], .bool false]) (by simp [results, Try.results17, go_sem, c1_0]) rfl (overAny_no hN.out (by (repeat' (first | (with_reducible exact Below.refl _ _) | (with_reducible assumption) | (with_reducible refine below_drewN ?_ _) | (with_reducible refine Below.drew ?_) | (with_reducible refine Below.alloc ?_ ?_ _) | (with_reducible refine Below.setCell ?_ ?_ _) | omega | (simp; done) | (simp; omega)))))
end Go.Proofs.Ytcpfpefbpeidpaa
