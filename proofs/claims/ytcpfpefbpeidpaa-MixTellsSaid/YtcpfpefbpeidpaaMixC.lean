/- Walks: Start, Byte, Grey at the arguments that may be. -/
import Derived.Test.YtcpfpefbpeidpaaMixBase
namespace Go.Proofs.Ytcpfpefbpeidpaa
open Go.RowKit
set_option linter.unusedVariables false

/-- c clamped to what a byte can be. -/
def clamp (c : Int) : Int := if c < 0 then 0 else if 255 < c then 255 else c
theorem clamp_bd (c : Int) : 0 ≤ clamp c ∧ clamp c ≤ 255 := by unfold clamp; split <;> first | omega | (split <;> omega)
theorem clamp_in (c : Int) (h0 : 0 ≤ c) (h1 : c ≤ 255) : clamp c = c := by unfold clamp; rw [if_neg (by omega), if_neg (by omega)]

set_option maxHeartbeats 400000 in
theorem start (c : Int) (w : World) : Calls Try.prog 13 #[.int .i64 c] w fun e w' => e = .returned (.agg #[.int .i64 (65536 * clamp c), .int .i64 (65536 * clamp c)]) ∧ Below w.heap.size w w' := by
  by_cases h : c < 0
  · rw [show clamp c = 0 by unfold clamp; rw [if_pos h]]
    go_enter Try.func13, Try.ntmps13
    go_wp2
    all_goals exact bodyPost_ret (v := .agg #[.int .i64 (65536 * 0), .int .i64 (65536 * 0)]) (by simp [results, Try.results13, go_sem]) rfl ⟨rfl, by go_grown⟩
  · by_cases h1 : 255 < c
    · rw [show clamp c = 255 by unfold clamp; rw [if_neg h, if_pos h1]]
      go_enter Try.func13, Try.ntmps13
      go_wp2
      all_goals exact bodyPost_ret (v := .agg #[.int .i64 (65536 * 255), .int .i64 (65536 * 255)]) (by simp [results, Try.results13, go_sem]) rfl ⟨rfl, by go_grown⟩
    · rw [clamp_in c (by omega) (by omega)]
      by_cases h2 : c = 255
      · subst h2
        go_enter Try.func13, Try.ntmps13
        go_wp2
        all_goals exact bodyPost_ret (v := .agg #[.int .i64 (65536 * 255), .int .i64 (65536 * 255)]) (by simp [results, Try.results13, go_sem]) rfl ⟨rfl, by go_grown⟩
      · by_cases h3 : c = 0
        · subst h3
          go_enter Try.func13, Try.ntmps13
          go_wp2
          all_goals exact bodyPost_ret (v := .agg #[.int .i64 (65536 * 0), .int .i64 (65536 * 0)]) (by simp [results, Try.results13, go_sem]) rfl ⟨rfl, by go_grown⟩
        · have h4 : 0 < c := by omega
          have h5 : c < 255 := by omega
          go_enter Try.func13, Try.ntmps13
          go_wp2
          all_goals exact bodyPost_ret (v := .agg #[.int .i64 (65536 * c), .int .i64 (65536 * c)]) (by simp [results, Try.results13, go_sem]) rfl ⟨rfl, by go_grown⟩

set_option maxHeartbeats 400000 in
theorem okcov_at (lo hi n : Int) (h0 : 1 ≤ n) (h1 : n ≤ 4096) (h2 : 0 ≤ lo) (h3 : lo ≤ hi) (h4 : hi ≤ n) (w : World) :
    Calls Try.prog 26 #[.agg #[.int .i64 lo, .int .i64 hi], .int .i64 n] w fun e w' => e = .returned (.bool true) ∧ Below w.heap.size w w' := by
  go_enter Try.func26, Try.ntmps26
  go_wp2
  go_ret
  exact ⟨rfl, by go_grown⟩
set_option maxHeartbeats 400000 in
theorem oktone_at (lo hi : Int) (h2 : 0 ≤ lo) (h3 : lo ≤ hi) (h4 : hi ≤ 16711680) (w : World) :
    Calls Try.prog 27 #[.agg #[.int .i64 lo, .int .i64 hi]] w fun e w' => e = .returned (.bool true) ∧ Below w.heap.size w w' := by
  go_enter Try.func27, Try.ntmps27
  go_wp2
  go_ret
  exact ⟨rfl, by go_grown⟩
set_option maxHeartbeats 400000 in
theorem okcov_zero (w : World) :
    Calls Try.prog 26 #[.agg #[.int .i64 0, .int .i64 0], .int .i64 0] w fun e w' => e = .returned (.bool false) ∧ Below w.heap.size w w' := by
  go_enter Try.func26, Try.ntmps26
  go_wp2
  go_ret
  exact ⟨rfl, by go_grown⟩

def byteOf (lo hi : Int) : Int := (lo + hi + 65536) / 131072
set_option maxHeartbeats 400000 in
theorem byte_yes (lo hi : Int) (h2 : 0 ≤ lo) (h3 : lo ≤ hi) (h4 : hi ≤ 16711680) (w : World) :
    Calls Try.prog 18 #[.agg #[.int .i64 lo, .int .i64 hi]] w fun e w' => e = .returned (.int .u8 (byteOf lo hi)) ∧ Below w.heap.size w w' := by
  obtain ⟨g, eg⟩ : ∃ g, (lo + hi + 65536) / 131072 = g := ⟨_, rfl⟩
  have g0 : 0 ≤ g := by omega
  have g1 : g ≤ 255 := by omega
  rw [show byteOf lo hi = g from eg]
  go_enter Try.func18, Try.ntmps18
  go_wp2_with fail
  refine (oktone_at _ _ h2 h3 h4 _).mono ?_
  rintro e w1 ⟨rfl, hb⟩
  have hB1 : Below w.heap.size w w1 := Below.trans (by go_grown) (hb.mono (by simp))
  have k0 : Blk w1 w.heap.size 34 #[.int .i64 lo, .int .i64 hi] := Blk.below (Blk.new _ _ _) hb (by simp)
  have c0 := k0.cell
  clear hb
  go_wp2_with fail
  go_ret
  exact ⟨rfl, hB1⟩

def greyOf (lo hi n : Int) : Int := (255 * (lo + hi) + n) / (2 * n)
theorem grey_bd (lo hi n : Int) (h0 : 1 ≤ n) (h2 : 0 ≤ lo) (h3 : lo ≤ hi) (h4 : hi ≤ n) : 0 ≤ greyOf lo hi n ∧ greyOf lo hi n ≤ 255 := by
  unfold greyOf
  constructor
  · exact Int.ediv_nonneg (by omega) (by omega)
  · have : (255 * (lo + hi) + n) / (2 * n) < 256 := Int.ediv_lt_of_lt_mul (by omega) (by omega)
    omega
set_option maxHeartbeats 400000 in
theorem grey_yes (lo hi n : Int) (h0 : 1 ≤ n) (h1 : n ≤ 4096) (h2 : 0 ≤ lo) (h3 : lo ≤ hi) (h4 : hi ≤ n) (w : World) :
    Calls Try.prog 20 #[.agg #[.int .i64 lo, .int .i64 hi], .int .i64 n] w fun e w' => e = .returned (.int .u8 (greyOf lo hi n)) ∧ Below w.heap.size w w' := by
  obtain ⟨g0, g1⟩ := grey_bd lo hi n h0 h2 h3 h4
  obtain ⟨g, eg⟩ : ∃ g, (255 * (lo + hi) + n) / (2 * n) = g := ⟨_, rfl⟩
  rw [show greyOf lo hi n = g from eg] at *
  have z : (2 * n == 0) = false := by simp; omega
  go_enter Try.func20, Try.ntmps20
  go_wp2_with fail
  refine (okcov_at _ _ _ h0 h1 h2 h3 h4 _).mono ?_
  rintro e w1 ⟨rfl, hb⟩
  have hB1 : Below w.heap.size w w1 := Below.trans (by go_grown) (hb.mono (by simp))
  have k0 : Blk w1 w.heap.size 38 #[.int .i64 lo, .int .i64 hi] := Blk.below (Blk.new _ _ _) hb (by simp)
  have c0 := k0.cell
  clear hb
  go_wp2_with fail
  go_ret
  exact ⟨rfl, hB1⟩
set_option maxHeartbeats 400000 in
theorem grey_zero (w : World) : Calls Try.prog 20 #[.agg #[.int .i64 0, .int .i64 0], .int .i64 0] w fun e w' => e = .returned (.int .u8 0) ∧ Below w.heap.size w w' := by
  go_enter Try.func20, Try.ntmps20
  go_wp2_with fail
  refine (okcov_zero _).mono ?_
  rintro e w1 ⟨rfl, hb⟩
  have hB1 : Below w.heap.size w w1 := Below.trans (by go_grown) (hb.mono (by simp))
  clear hb
  go_wp2_with fail
  go_ret
  exact ⟨rfl, hB1⟩
end Go.Proofs.Ytcpfpefbpeidpaa
