/- Walks: Start, Byte, Grey and the laws' Tone and Cov, at the arguments that may be. -/
import Derived.Test.YtcpfpefbpeidpaaMixBase
namespace Go.Proofs.Ytcpfpefbpeidpaa
open Go.RowKit
set_option linter.unusedVariables false

/-- The laws' Tone: two numbers in order, from 0 to 16711680. -/
def ToneIs (w : World) (e : Ending) (w' : World) : Prop := ∃ lo hi : Int, 0 ≤ lo ∧ lo ≤ hi ∧ hi ≤ 16711680 ∧ e = .returned (.agg #[.int .i64 lo, .int .i64 hi]) ∧ Below w.heap.size w w'
theorem toneIs_mk {w w' : World} (lo hi : Int) (h0 : 0 ≤ lo) (h1 : lo ≤ hi) (h2 : hi ≤ 16711680) (hb : Below w.heap.size w w') : ToneIs w (.returned (.agg #[.int .i64 lo, .int .i64 hi])) w' := ⟨_, _, h0, h1, h2, rfl, hb⟩
set_option maxHeartbeats 400000 in
theorem tone (a b : Int) (w : World) : Calls Try.prog 23 #[.int .i64 a, .int .i64 b] w (ToneIs w) := by
  obtain ⟨x, ex⟩ : ∃ n, IntKind.u64.wrap a = n := ⟨_, rfl⟩
  obtain ⟨y, ey⟩ : ∃ n, IntKind.u64.wrap b = n := ⟨_, rfl⟩
  have hx : 0 ≤ x := by rw [← ex, IntKind.wrap_u64]; omega
  have hy : 0 ≤ y := by rw [← ey, IntKind.wrap_u64]; omega
  obtain ⟨p, ep⟩ : ∃ n, x % 16711681 = n := ⟨_, rfl⟩
  obtain ⟨q, eq⟩ : ∃ n, y % 16711681 = n := ⟨_, rfl⟩
  have p0 : 0 ≤ p := by omega
  have p1 : p ≤ 16711680 := by omega
  have q0 : 0 ≤ q := by omega
  have q1 : q ≤ 16711680 := by omega
  by_cases h : p ≤ q
  · by_cases h' : p < q
    · go_enter Try.func23, Try.ntmps23
      go_wp2
      exact bodyPost_ret (v := .agg #[.int .i64 p, .int .i64 q]) (by simp [results, Try.results23, go_sem]) rfl (toneIs_mk _ _ p0 h q1 (by go_grown))
    · obtain rfl : p = q := by omega
      go_enter Try.func23, Try.ntmps23
      go_wp2
      exact bodyPost_ret (v := .agg #[.int .i64 p, .int .i64 p]) (by simp [results, Try.results23, go_sem]) rfl (toneIs_mk _ _ p0 h q1 (by go_grown))
  · go_enter Try.func23, Try.ntmps23
    go_wp2
    exact bodyPost_ret (v := .agg #[.int .i64 q, .int .i64 p]) (by simp [results, Try.results23, go_sem]) rfl (toneIs_mk _ _ q0 (by omega) p1 (by go_grown))

/-- The laws' Cov: two numbers in order, from 0 to the number of cells. -/
def CovIs (n : Int) (w : World) (e : Ending) (w' : World) : Prop := ∃ lo hi : Int, 0 ≤ lo ∧ lo ≤ hi ∧ hi ≤ n ∧ e = .returned (.agg #[.int .i64 lo, .int .i64 hi]) ∧ Below w.heap.size w w'
theorem covIs_mk {n : Int} {w w' : World} (lo hi : Int) (h0 : 0 ≤ lo) (h1 : lo ≤ hi) (h2 : hi ≤ n) (hb : Below w.heap.size w w') : CovIs n w (.returned (.agg #[.int .i64 lo, .int .i64 hi])) w' := ⟨_, _, h0, h1, h2, rfl, hb⟩
set_option maxHeartbeats 1000000 in
theorem cov (a b n : Int) (n0 : 0 ≤ n) (n1 : n ≤ 4096) (w : World) : Calls Try.prog 14 #[.int .i64 a, .int .i64 b, .int .i64 n] w (CovIs n w) := by
  obtain ⟨x, ex⟩ : ∃ n, IntKind.u64.wrap a = n := ⟨_, rfl⟩
  obtain ⟨y, ey⟩ : ∃ n, IntKind.u64.wrap b = n := ⟨_, rfl⟩
  have hx : 0 ≤ x := by rw [← ex, IntKind.wrap_u64]; omega
  have hy : 0 ≤ y := by rw [← ey, IntKind.wrap_u64]; omega
  obtain ⟨p, ep⟩ : ∃ m, x % (n + 1) = m := ⟨_, rfl⟩
  obtain ⟨q, eq⟩ : ∃ m, y % (n + 1) = m := ⟨_, rfl⟩
  obtain ⟨p0, p1⟩ : 0 ≤ p ∧ p ≤ n := by
    have h1 := Int.emod_nonneg x (by omega : n + 1 ≠ 0)
    have h2 := Int.emod_lt_of_pos x (by omega : 0 < n + 1)
    omega
  obtain ⟨q0, q1⟩ : 0 ≤ q ∧ q ≤ n := by
    have h1 := Int.emod_nonneg y (by omega : n + 1 ≠ 0)
    have h2 := Int.emod_lt_of_pos y (by omega : 0 < n + 1)
    omega
  have z : (n + 1 == 0) = false := by simp; omega
  have u : IntKind.u64.wrap (n + 1) = n + 1 := IntWalk.u64_in _ (by omega)
  by_cases h : p ≤ q
  · by_cases h' : p < q
    · go_enter Try.func14, Try.ntmps14
      go_wp2
      go_quiet (fail)
      go_wp2
      exact bodyPost_ret (v := .agg #[.int .i64 p, .int .i64 q]) (by simp [results, Try.results14, go_sem]) rfl (covIs_mk _ _ p0 h q1 (by (repeat' (first | (with_reducible exact Below.refl _ _) | (with_reducible assumption) | (with_reducible refine below_drewN ?_ _) | (with_reducible refine Below.drew ?_) | (with_reducible refine Below.alloc ?_ ?_ _) | (with_reducible refine Below.setCell ?_ ?_ _) | omega | (simp; done) | (simp; omega)))))
    · obtain rfl : p = q := by omega
      go_enter Try.func14, Try.ntmps14
      go_wp2
      go_quiet (fail)
      go_wp2
      exact bodyPost_ret (v := .agg #[.int .i64 p, .int .i64 p]) (by simp [results, Try.results14, go_sem]) rfl (covIs_mk _ _ p0 h q1 (by (repeat' (first | (with_reducible exact Below.refl _ _) | (with_reducible assumption) | (with_reducible refine below_drewN ?_ _) | (with_reducible refine Below.drew ?_) | (with_reducible refine Below.alloc ?_ ?_ _) | (with_reducible refine Below.setCell ?_ ?_ _) | omega | (simp; done) | (simp; omega)))))
  · go_enter Try.func14, Try.ntmps14
    go_wp2
    go_quiet (fail)
    go_wp2
    exact bodyPost_ret (v := .agg #[.int .i64 q, .int .i64 p]) (by simp [results, Try.results14, go_sem]) rfl (covIs_mk _ _ q0 (by omega) p1 (by (repeat' (first | (with_reducible exact Below.refl _ _) | (with_reducible assumption) | (with_reducible refine below_drewN ?_ _) | (with_reducible refine Below.drew ?_) | (with_reducible refine Below.alloc ?_ ?_ _) | (with_reducible refine Below.setCell ?_ ?_ _) | omega | (simp; done) | (simp; omega)))))
end Go.Proofs.Ytcpfpefbpeidpaa
