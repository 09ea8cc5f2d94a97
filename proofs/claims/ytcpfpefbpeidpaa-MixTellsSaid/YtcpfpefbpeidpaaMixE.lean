/- Walks: the functions of package mix and the reference's, at any arguments. -/
import Derived.Test.YtcpfpefbpeidpaaMixC
import Derived.Lib.Hide
namespace Go.Proofs.Ytcpfpefbpeidpaa
open Go.RowKit
set_option linter.unusedVariables false

/-- A Cov that may be, of so many cells. -/
def CovMay (lo hi n : Int) : Prop := 1 ≤ n ∧ n ≤ 4096 ∧ 0 ≤ lo ∧ lo ≤ hi ∧ hi ≤ n
instance (lo hi n : Int) : Decidable (CovMay lo hi n) := by unfold CovMay; infer_instance
/-- A tone that may be. -/
def ToneMay (lo hi : Int) : Prop := 0 ≤ lo ∧ lo ≤ hi ∧ hi ≤ 16711680
instance (lo hi : Int) : Decidable (ToneMay lo hi) := by unfold ToneMay; infer_instance
def byteV (lo hi : Int) : Int := if ToneMay lo hi then byteOf lo hi else 0
def greyV (lo hi n : Int) : Int := if CovMay lo hi n then greyOf lo hi n else 0

set_option maxHeartbeats 1000000 in
theorem covmay (lo hi n : Int) (w : World) :
    Calls Try.prog 26 #[.agg #[.int .i64 lo, .int .i64 hi], .int .i64 n] w fun e w' => e = .returned (.bool (decide (CovMay lo hi n))) ∧ Below w.heap.size w w' := by
  obtain ⟨b, eb⟩ : ∃ b, decide (CovMay lo hi n) = b := ⟨_, rfl⟩
  rw [eb]
  have hb : (b = true → CovMay lo hi n) ∧ (b = false → ¬ CovMay lo hi n) := by subst eb; simp
  have hB := Lib.hid hb
  clear eb hb
  go_enter Try.func26, Try.ntmps26
  go_wp2
  all_goals
    go_ret
    refine ⟨?_, by go_grown⟩
    obtain ⟨h1, h2⟩ := hB.out
    unfold CovMay at h1 h2
    cases b <;> simp at h1 h2 ⊢ <;> omega

set_option maxHeartbeats 1000000 in
theorem covmayR (lo hi n : Int) (w : World) :
    Calls Try.prog 28 #[.agg #[.int .i64 lo, .int .i64 hi], .int .i64 n] w fun e w' => e = .returned (.bool (decide (CovMay lo hi n))) ∧ Below w.heap.size w w' := by
  obtain ⟨b, eb⟩ : ∃ b, decide (CovMay lo hi n) = b := ⟨_, rfl⟩
  rw [eb]
  have hb : (b = true → CovMay lo hi n) ∧ (b = false → ¬ CovMay lo hi n) := by subst eb; simp
  have hB := Lib.hid hb
  clear eb hb
  go_enter Try.func28, Try.ntmps28
  go_wp2
  all_goals
    go_ret
    refine ⟨?_, by go_grown⟩
    obtain ⟨h1, h2⟩ := hB.out
    unfold CovMay at h1 h2
    cases b <;> simp at h1 h2 ⊢ <;> omega

set_option maxHeartbeats 1000000 in
theorem tonemay (lo hi : Int) (w : World) :
    Calls Try.prog 27 #[.agg #[.int .i64 lo, .int .i64 hi]] w fun e w' => e = .returned (.bool (decide (ToneMay lo hi))) ∧ Below w.heap.size w w' := by
  obtain ⟨b, eb⟩ : ∃ b, decide (ToneMay lo hi) = b := ⟨_, rfl⟩
  rw [eb]
  have hb : (b = true → ToneMay lo hi) ∧ (b = false → ¬ ToneMay lo hi) := by subst eb; simp
  have hB := Lib.hid hb
  clear eb hb
  go_enter Try.func27, Try.ntmps27
  go_wp2
  all_goals
    go_ret
    refine ⟨?_, by go_grown⟩
    obtain ⟨h1, h2⟩ := hB.out
    unfold ToneMay at h1 h2
    cases b <;> simp at h1 h2 ⊢ <;> omega

set_option maxHeartbeats 1000000 in
theorem tonemayR (lo hi : Int) (w : World) :
    Calls Try.prog 29 #[.agg #[.int .i64 lo, .int .i64 hi]] w fun e w' => e = .returned (.bool (decide (ToneMay lo hi))) ∧ Below w.heap.size w w' := by
  obtain ⟨b, eb⟩ : ∃ b, decide (ToneMay lo hi) = b := ⟨_, rfl⟩
  rw [eb]
  have hb : (b = true → ToneMay lo hi) ∧ (b = false → ¬ ToneMay lo hi) := by subst eb; simp
  have hB := Lib.hid hb
  clear eb hb
  go_enter Try.func29, Try.ntmps29
  go_wp2
  all_goals
    go_ret
    refine ⟨?_, by go_grown⟩
    obtain ⟨h1, h2⟩ := hB.out
    unfold ToneMay at h1 h2
    cases b <;> simp at h1 h2 ⊢ <;> omega

set_option maxHeartbeats 1000000 in
theorem byte_any (lo hi : Int) (w : World) :
    Calls Try.prog 18 #[.agg #[.int .i64 lo, .int .i64 hi]] w fun e w' => e = .returned (.int .u8 (byteV lo hi)) ∧ Below w.heap.size w w' := by
  by_cases hm : ToneMay lo hi
  · obtain ⟨h2, h3, h4⟩ := id hm
    have ok := fun w => tonemay lo hi w
    rw [decide_eq_true hm] at ok
    obtain ⟨g, eg⟩ : ∃ g, (lo + hi + 65536) / 131072 = g := ⟨_, rfl⟩
    have g0 : 0 ≤ g := by omega
    have g1 : g ≤ 255 := by omega
    rw [show byteV lo hi = g by unfold byteV; rw [if_pos hm]; exact eg]
    have O := Lib.hid ok
    clear ok hm
    go_enter Try.func18, Try.ntmps18
    go_wp2_with fail
    refine (O.out _).mono ?_
    rintro e w1 ⟨rfl, hb⟩
    have hB1 : Below w.heap.size w w1 := Below.trans (by go_grown) (hb.mono (by simp))
    have k0 : Blk w1 w.heap.size 34 #[.int .i64 lo, .int .i64 hi] := Blk.below (Blk.new _ _ _) hb (by simp)
    have c0 := k0.cell
    clear hb
    go_wp2_with fail
    go_ret
    exact ⟨rfl, hB1⟩
  · have ok := fun w => tonemay lo hi w
    rw [decide_eq_false hm] at ok
    rw [show byteV lo hi = 0 by unfold byteV; rw [if_neg hm]]
    have O := Lib.hid ok
    clear ok hm
    go_enter Try.func18, Try.ntmps18
    go_wp2_with fail
    refine (O.out _).mono ?_
    rintro e w1 ⟨rfl, hb⟩
    have hB1 : Below w.heap.size w w1 := Below.trans (by go_grown) (hb.mono (by simp))
    clear hb
    go_wp2_with fail
    go_ret
    exact ⟨rfl, hB1⟩

set_option maxHeartbeats 1000000 in
theorem byteR_any (lo hi : Int) (w : World) :
    Calls Try.prog 19 #[.agg #[.int .i64 lo, .int .i64 hi]] w fun e w' => e = .returned (.int .u8 (byteV lo hi)) ∧ Below w.heap.size w w' := by
  by_cases hm : ToneMay lo hi
  · obtain ⟨h2, h3, h4⟩ := id hm
    have ok := fun w => tonemayR lo hi w
    rw [decide_eq_true hm] at ok
    obtain ⟨g, eg⟩ : ∃ g, (lo + hi + 65536) / 131072 = g := ⟨_, rfl⟩
    have g0 : 0 ≤ g := by omega
    have g1 : g ≤ 255 := by omega
    rw [show byteV lo hi = g by unfold byteV; rw [if_pos hm]; exact eg]
    have O := Lib.hid ok
    clear ok hm
    go_enter Try.func19, Try.ntmps19
    go_wp2_with fail
    refine (O.out _).mono ?_
    rintro e w1 ⟨rfl, hb⟩
    have hB1 : Below w.heap.size w w1 := Below.trans (by go_grown) (hb.mono (by simp))
    have k0 : Blk w1 w.heap.size 34 #[.int .i64 lo, .int .i64 hi] := Blk.below (Blk.new _ _ _) hb (by simp)
    have c0 := k0.cell
    clear hb
    go_wp2_with fail
    go_ret
    exact ⟨rfl, hB1⟩
  · have ok := fun w => tonemayR lo hi w
    rw [decide_eq_false hm] at ok
    rw [show byteV lo hi = 0 by unfold byteV; rw [if_neg hm]]
    have O := Lib.hid ok
    clear ok hm
    go_enter Try.func19, Try.ntmps19
    go_wp2_with fail
    refine (O.out _).mono ?_
    rintro e w1 ⟨rfl, hb⟩
    have hB1 : Below w.heap.size w w1 := Below.trans (by go_grown) (hb.mono (by simp))
    clear hb
    go_wp2_with fail
    go_ret
    exact ⟨rfl, hB1⟩

set_option maxHeartbeats 1000000 in
theorem grey_any (lo hi n : Int) (w : World) :
    Calls Try.prog 20 #[.agg #[.int .i64 lo, .int .i64 hi], .int .i64 n] w fun e w' => e = .returned (.int .u8 (greyV lo hi n)) ∧ Below w.heap.size w w' := by
  by_cases hm : CovMay lo hi n
  · obtain ⟨h0, h1, h2, h3, h4⟩ := id hm
    have ok := fun w => covmay lo hi n w
    rw [decide_eq_true hm] at ok
    obtain ⟨g0, g1⟩ := grey_bd lo hi n h0 h2 h3 h4
    obtain ⟨g, eg⟩ : ∃ g, (255 * (lo + hi) + n) / (2 * n) = g := ⟨_, rfl⟩
    rw [show greyOf lo hi n = g from eg] at *
    rw [show greyV lo hi n = g by unfold greyV; rw [if_pos hm]; exact eg]
    have z : (2 * n == 0) = false := by simp; omega
    have O := Lib.hid ok
    clear ok hm
    go_enter Try.func20, Try.ntmps20
    go_wp2_with fail
    refine (O.out _).mono ?_
    rintro e w1 ⟨rfl, hb⟩
    have hB1 : Below w.heap.size w w1 := Below.trans (by go_grown) (hb.mono (by simp))
    have k0 : Blk w1 w.heap.size 38 #[.int .i64 lo, .int .i64 hi] := Blk.below (Blk.new _ _ _) hb (by simp)
    have c0 := k0.cell
    clear hb
    go_wp2_with fail
    go_ret
    exact ⟨rfl, hB1⟩
  · have ok := fun w => covmay lo hi n w
    rw [decide_eq_false hm] at ok
    rw [show greyV lo hi n = 0 by unfold greyV; rw [if_neg hm]]
    have O := Lib.hid ok
    clear ok hm
    go_enter Try.func20, Try.ntmps20
    go_wp2_with fail
    refine (O.out _).mono ?_
    rintro e w1 ⟨rfl, hb⟩
    have hB1 : Below w.heap.size w w1 := Below.trans (by go_grown) (hb.mono (by simp))
    clear hb
    go_wp2_with fail
    go_ret
    exact ⟨rfl, hB1⟩

set_option maxHeartbeats 1000000 in
theorem greyR_any (lo hi n : Int) (w : World) :
    Calls Try.prog 21 #[.agg #[.int .i64 lo, .int .i64 hi], .int .i64 n] w fun e w' => e = .returned (.int .u8 (greyV lo hi n)) ∧ Below w.heap.size w w' := by
  by_cases hm : CovMay lo hi n
  · obtain ⟨h0, h1, h2, h3, h4⟩ := id hm
    have ok := fun w => covmayR lo hi n w
    rw [decide_eq_true hm] at ok
    obtain ⟨g0, g1⟩ := grey_bd lo hi n h0 h2 h3 h4
    obtain ⟨g, eg⟩ : ∃ g, (255 * (lo + hi) + n) / (2 * n) = g := ⟨_, rfl⟩
    rw [show greyOf lo hi n = g from eg] at *
    rw [show greyV lo hi n = g by unfold greyV; rw [if_pos hm]; exact eg]
    have z : (2 * n == 0) = false := by simp; omega
    have O := Lib.hid ok
    clear ok hm
    go_enter Try.func21, Try.ntmps21
    go_wp2_with fail
    refine (O.out _).mono ?_
    rintro e w1 ⟨rfl, hb⟩
    have hB1 : Below w.heap.size w w1 := Below.trans (by go_grown) (hb.mono (by simp))
    have k0 : Blk w1 w.heap.size 38 #[.int .i64 lo, .int .i64 hi] := Blk.below (Blk.new _ _ _) hb (by simp)
    have c0 := k0.cell
    clear hb
    go_wp2_with fail
    go_ret
    exact ⟨rfl, hB1⟩
  · have ok := fun w => covmayR lo hi n w
    rw [decide_eq_false hm] at ok
    rw [show greyV lo hi n = 0 by unfold greyV; rw [if_neg hm]]
    have O := Lib.hid ok
    clear ok hm
    go_enter Try.func21, Try.ntmps21
    go_wp2_with fail
    refine (O.out _).mono ?_
    rintro e w1 ⟨rfl, hb⟩
    have hB1 : Below w.heap.size w w1 := Below.trans (by go_grown) (hb.mono (by simp))
    clear hb
    go_wp2_with fail
    go_ret
    exact ⟨rfl, hB1⟩

set_option maxHeartbeats 1000000 in
theorem startR (c : Int) (w : World) : Calls Try.prog 22 #[.int .i64 c] w fun e w' => e = .returned (.agg #[.int .i64 (65536 * clamp c), .int .i64 (65536 * clamp c)]) ∧ Below w.heap.size w w' := by
  by_cases h : c < 0
  · rw [show clamp c = 0 by unfold clamp; rw [if_pos h]]
    go_enter Try.func22, Try.ntmps22
    go_wp2
    all_goals exact bodyPost_ret (v := .agg #[.int .i64 (65536 * 0), .int .i64 (65536 * 0)]) (by simp [results, Try.results22, go_sem]) rfl ⟨rfl, by go_grown⟩
  · by_cases h1 : 255 < c
    · rw [show clamp c = 255 by unfold clamp; rw [if_neg h, if_pos h1]]
      go_enter Try.func22, Try.ntmps22
      go_wp2
      all_goals exact bodyPost_ret (v := .agg #[.int .i64 (65536 * 255), .int .i64 (65536 * 255)]) (by simp [results, Try.results22, go_sem]) rfl ⟨rfl, by go_grown⟩
    · rw [clamp_in c (by omega) (by omega)]
      by_cases h2 : c = 255
      · subst h2
        go_enter Try.func22, Try.ntmps22
        go_wp2
        all_goals exact bodyPost_ret (v := .agg #[.int .i64 (65536 * 255), .int .i64 (65536 * 255)]) (by simp [results, Try.results22, go_sem]) rfl ⟨rfl, by go_grown⟩
      · by_cases h3 : c = 0
        · subst h3
          go_enter Try.func22, Try.ntmps22
          go_wp2
          all_goals exact bodyPost_ret (v := .agg #[.int .i64 (65536 * 0), .int .i64 (65536 * 0)]) (by simp [results, Try.results22, go_sem]) rfl ⟨rfl, by go_grown⟩
        · have h4 : 0 < c := by omega
          have h5 : c < 255 := by omega
          go_enter Try.func22, Try.ntmps22
          go_wp2
          all_goals exact bodyPost_ret (v := .agg #[.int .i64 (65536 * c), .int .i64 (65536 * c)]) (by simp [results, Try.results22, go_sem]) rfl ⟨rfl, by go_grown⟩

end Go.Proofs.Ytcpfpefbpeidpaa
