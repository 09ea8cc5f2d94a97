/- A walk: what the statements of layer 24 ask of fixed numbers is true. -/
import Derived.Test.YtcpfpefbpeidpaaMixOver
namespace Go.Proofs.Ytcpfpefbpeidpaa
open Go.RowKit
set_option linter.unusedVariables false

theorem fix_lo : loOf (255 * 4) (65536 * 255) 0 (255 * 1) (255 * 3) = 4177920 := by decide
theorem fix_hi : hiOf (255 * 4) (65536 * 255) 0 (255 * 1) (255 * 3) = 12533760 := by decide
theorem over_fix (w : World) : Calls Try.prog 15 #[.agg #[.int .i64 0, .int .i64 0], .int .i64 255, .int .i64 255, .agg #[.int .i64 1, .int .i64 3], .int .i64 4] w fun e w' =>
      e = .returned (.tuple #[.agg #[.int .i64 4177920, .int .i64 12533760], .bool true]) ∧ Below w.heap.size w w' := by
  have h := over 0 0 255 255 1 3 4 (by decide) (by decide) (by decide) (by decide) (by decide) (by decide) (by decide) (by decide) (by decide) (by decide) (by decide) (by decide) w
  rw [fix_lo, fix_hi] at h
  exact h
theorem start0 (w : World) : Calls Try.prog 13 #[.int .i64 0] w fun e w' => e = .returned (.agg #[.int .i64 0, .int .i64 0]) ∧ Below w.heap.size w w' := start 0 w
theorem start7 (w : World) : Calls Try.prog 13 #[.int .i64 7] w fun e w' => e = .returned (.agg #[.int .i64 458752, .int .i64 458752]) ∧ Below w.heap.size w w' := start 7 w
theorem byte7 (w : World) : Calls Try.prog 18 #[.agg #[.int .i64 458752, .int .i64 458752]] w fun e w' => e = .returned (.int .u8 7) ∧ Below w.heap.size w w' := byte_yes 458752 458752 (by decide) (by decide) (by decide) w
theorem grey4 (w : World) : Calls Try.prog 20 #[.agg #[.int .i64 4, .int .i64 4], .int .i64 4] w fun e w' => e = .returned (.int .u8 255) ∧ Below w.heap.size w w' := grey_yes 4 4 4 (by decide) (by decide) (by decide) (by decide) (by decide) w

set_option maxRecDepth 100000 in
set_option maxHeartbeats 1000000 in
theorem awake24 (w : World) : Calls Try.prog 16 #[] w fun e w' => e = .returned (.bool true) ∧ Below w.heap.size w w' := by
  go_enter Try.func16, Try.ntmps16
  go_wp2_with fail
  refine (start0 _).mono ?_
  rintro e w1 ⟨rfl, hb⟩
  have hB1 : Below w.heap.size w w1 := Below.trans (by (repeat' (first | (with_reducible exact Below.refl _ _) | (with_reducible assumption) | (with_reducible refine below_drewN ?_ _) | (with_reducible refine Below.drew ?_) | (with_reducible refine Below.alloc ?_ ?_ _) | (with_reducible refine Below.setCell ?_ ?_ _) | omega | (simp; done) | (simp; omega)))) (hb.mono (by first | omega | (simp; done) | (simp; omega)))
  have l1 := hB1.size
  clear hb
  go_wp2_with fail
  as_aux_lemma =>
    refine (over_fix _).mono ?_
    rintro e w2 ⟨rfl, hb⟩
    have hB2 : Below w.heap.size w w2 := Below.trans (by (repeat' (first | (with_reducible exact Below.refl _ _) | (with_reducible assumption) | (with_reducible refine below_drewN ?_ _) | (with_reducible refine Below.drew ?_) | (with_reducible refine Below.alloc ?_ ?_ _) | (with_reducible refine Below.setCell ?_ ?_ _) | omega | (simp; done) | (simp; omega)))) (hb.mono (by first | omega | (simp; done) | (simp; omega)))
    have l2 := hB2.size
    clear hb hB1
    go_wp2_with fail
    as_aux_lemma =>
      refine (over_off _).mono ?_
      rintro e w3 ⟨rfl, hb⟩
      have hB3 : Below w.heap.size w w3 := Below.trans (by (repeat' (first | (with_reducible exact Below.refl _ _) | (with_reducible assumption) | (with_reducible refine below_drewN ?_ _) | (with_reducible refine Below.drew ?_) | (with_reducible refine Below.alloc ?_ ?_ _) | (with_reducible refine Below.setCell ?_ ?_ _) | omega | (simp; done) | (simp; omega)))) (hb.mono (by first | omega | (simp; done) | (simp; omega)))
      have k3_0 : Blk w3 (w2.heap.size) 34 #[.int .i64 4177920, .int .i64 12533760] := Blk.below (by (repeat' (first | (with_reducible assumption) | (with_reducible exact Blk.new _ _ _) | (exact Blk.newAt (by first | rfl | (simp; done) | omega)) | (with_reducible refine Blk.drewN ?_ _) | (with_reducible refine Blk.drew ?_) | (with_reducible refine Blk.alloc ?_ _) | (with_reducible apply Blk.set_) | (with_reducible refine Blk.far ?_ ?_ _) | rfl | omega | (simp; done) | (simp; omega)))) hb (by first | omega | (simp; done) | (simp; omega))
      have c3_0 := k3_0.cell
      have f3_0 := k3_0.frozen
      have l3_0 := k3_0.lt
      have l3 := hB3.size
      clear hb hB2
      go_wp2_with fail
      as_aux_lemma =>
        refine (start7 _).mono ?_
        rintro e w4 ⟨rfl, hb⟩
        have hB4 : Below w.heap.size w w4 := Below.trans (by (repeat' (first | (with_reducible exact Below.refl _ _) | (with_reducible assumption) | (with_reducible refine below_drewN ?_ _) | (with_reducible refine Below.drew ?_) | (with_reducible refine Below.alloc ?_ ?_ _) | (with_reducible refine Below.setCell ?_ ?_ _) | omega | (simp; done) | (simp; omega)))) (hb.mono (by first | omega | (simp; done) | (simp; omega)))
        have k4_0 : Blk w4 (w2.heap.size) 34 #[.int .i64 4177920, .int .i64 12533760] := Blk.below (by (repeat' (first | (with_reducible assumption) | (with_reducible exact Blk.new _ _ _) | (exact Blk.newAt (by first | rfl | (simp; done) | omega)) | (with_reducible refine Blk.drewN ?_ _) | (with_reducible refine Blk.drew ?_) | (with_reducible refine Blk.alloc ?_ _) | (with_reducible apply Blk.set_) | (with_reducible refine Blk.far ?_ ?_ _) | rfl | omega | (simp; done) | (simp; omega)))) hb (by first | omega | (simp; done) | (simp; omega))
        have c4_0 := k4_0.cell
        have f4_0 := k4_0.frozen
        have l4_0 := k4_0.lt
        have l4 := hB4.size
        clear hb k3_0 c3_0 f3_0 l3_0 hB3
        go_wp2_with fail
        as_aux_lemma =>
          refine (start7 _).mono ?_
          rintro e w5 ⟨rfl, hb⟩
          have hB5 : Below w.heap.size w w5 := Below.trans (by (repeat' (first | (with_reducible exact Below.refl _ _) | (with_reducible assumption) | (with_reducible refine below_drewN ?_ _) | (with_reducible refine Below.drew ?_) | (with_reducible refine Below.alloc ?_ ?_ _) | (with_reducible refine Below.setCell ?_ ?_ _) | omega | (simp; done) | (simp; omega)))) (hb.mono (by first | omega | (simp; done) | (simp; omega)))
          have k5_0 : Blk w5 (w2.heap.size) 34 #[.int .i64 4177920, .int .i64 12533760] := Blk.below (by (repeat' (first | (with_reducible assumption) | (with_reducible exact Blk.new _ _ _) | (exact Blk.newAt (by first | rfl | (simp; done) | omega)) | (with_reducible refine Blk.drewN ?_ _) | (with_reducible refine Blk.drew ?_) | (with_reducible refine Blk.alloc ?_ _) | (with_reducible apply Blk.set_) | (with_reducible refine Blk.far ?_ ?_ _) | rfl | omega | (simp; done) | (simp; omega)))) hb (by first | omega | (simp; done) | (simp; omega))
          have c5_0 := k5_0.cell
          have f5_0 := k5_0.frozen
          have l5_0 := k5_0.lt
          have l5 := hB5.size
          clear hb k4_0 c4_0 f4_0 l4_0 hB4
          go_wp2_with fail
          as_aux_lemma =>
            refine (byte7 _).mono ?_
            rintro e w6 ⟨rfl, hb⟩
            have hB6 : Below w.heap.size w w6 := Below.trans (by (repeat' (first | (with_reducible exact Below.refl _ _) | (with_reducible assumption) | (with_reducible refine below_drewN ?_ _) | (with_reducible refine Below.drew ?_) | (with_reducible refine Below.alloc ?_ ?_ _) | (with_reducible refine Below.setCell ?_ ?_ _) | omega | (simp; done) | (simp; omega)))) (hb.mono (by first | omega | (simp; done) | (simp; omega)))
            have k6_0 : Blk w6 (w2.heap.size) 34 #[.int .i64 4177920, .int .i64 12533760] := Blk.below (by (repeat' (first | (with_reducible assumption) | (with_reducible exact Blk.new _ _ _) | (exact Blk.newAt (by first | rfl | (simp; done) | omega)) | (with_reducible refine Blk.drewN ?_ _) | (with_reducible refine Blk.drew ?_) | (with_reducible refine Blk.alloc ?_ _) | (with_reducible apply Blk.set_) | (with_reducible refine Blk.far ?_ ?_ _) | rfl | omega | (simp; done) | (simp; omega)))) hb (by first | omega | (simp; done) | (simp; omega))
            have c6_0 := k6_0.cell
            have f6_0 := k6_0.frozen
            have l6_0 := k6_0.lt
            have l6 := hB6.size
            clear hb k5_0 c5_0 f5_0 l5_0 hB5
            go_wp2_with fail
            as_aux_lemma =>
              refine (grey4 _).mono ?_
              rintro e w7 ⟨rfl, hb⟩
              have hB7 : Below w.heap.size w w7 := Below.trans (by (repeat' (first | (with_reducible exact Below.refl _ _) | (with_reducible assumption) | (with_reducible refine below_drewN ?_ _) | (with_reducible refine Below.drew ?_) | (with_reducible refine Below.alloc ?_ ?_ _) | (with_reducible refine Below.setCell ?_ ?_ _) | omega | (simp; done) | (simp; omega)))) (hb.mono (by first | omega | (simp; done) | (simp; omega)))
              have k7_0 : Blk w7 (w2.heap.size) 34 #[.int .i64 4177920, .int .i64 12533760] := Blk.below (by (repeat' (first | (with_reducible assumption) | (with_reducible exact Blk.new _ _ _) | (exact Blk.newAt (by first | rfl | (simp; done) | omega)) | (with_reducible refine Blk.drewN ?_ _) | (with_reducible refine Blk.drew ?_) | (with_reducible refine Blk.alloc ?_ _) | (with_reducible apply Blk.set_) | (with_reducible refine Blk.far ?_ ?_ _) | rfl | omega | (simp; done) | (simp; omega)))) hb (by first | omega | (simp; done) | (simp; omega))
              have c7_0 := k7_0.cell
              have f7_0 := k7_0.frozen
              have l7_0 := k7_0.lt
              have l7 := hB7.size
              clear hb k6_0 c6_0 f6_0 l6_0 hB6
              go_wp2_with fail
              as_aux_lemma =>
                refine (grey_zero _).mono ?_
                rintro e w8 ⟨rfl, hb⟩
                have hB8 : Below w.heap.size w w8 := Below.trans (by (repeat' (first | (with_reducible exact Below.refl _ _) | (with_reducible assumption) | (with_reducible refine below_drewN ?_ _) | (with_reducible refine Below.drew ?_) | (with_reducible refine Below.alloc ?_ ?_ _) | (with_reducible refine Below.setCell ?_ ?_ _) | omega | (simp; done) | (simp; omega)))) (hb.mono (by first | omega | (simp; done) | (simp; omega)))
                have k8_0 : Blk w8 (w2.heap.size) 34 #[.int .i64 4177920, .int .i64 12533760] := Blk.below (by (repeat' (first | (with_reducible assumption) | (with_reducible exact Blk.new _ _ _) | (exact Blk.newAt (by first | rfl | (simp; done) | omega)) | (with_reducible refine Blk.drewN ?_ _) | (with_reducible refine Blk.drew ?_) | (with_reducible refine Blk.alloc ?_ _) | (with_reducible apply Blk.set_) | (with_reducible refine Blk.far ?_ ?_ _) | rfl | omega | (simp; done) | (simp; omega)))) hb (by first | omega | (simp; done) | (simp; omega))
                have c8_0 := k8_0.cell
                have f8_0 := k8_0.frozen
                have l8_0 := k8_0.lt
                have l8 := hB8.size
                clear hb k7_0 c7_0 f7_0 l7_0 hB7
                go_wp2_with fail
                go_ret
                exact ⟨rfl, hB8⟩
end Go.Proofs.Ytcpfpefbpeidpaa
