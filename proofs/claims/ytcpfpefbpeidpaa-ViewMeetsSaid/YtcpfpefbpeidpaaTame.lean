/- A walk: heliographlaw22.Tame returns a view that may be. -/
import Derived.Test.YtcpfpefbpeidpaaBase
namespace Go.Proofs.Ytcpfpefbpeidpaa
open Go.RowKit

set_option maxHeartbeats 1000000 in
theorem tame (X Y P W H D : Int) (w : World) :
    Calls Try.prog 9 #[.agg #[.int .i64 X, .int .i64 Y, .int .i64 P, .int .i64 W, .int .i64 H, .int .i64 D], .bool false] w (Tamed w) := by
  have eW := mask7 W
  have eH := mask7 H
  obtain ⟨u, eu⟩ : ∃ u, IntKind.u64.wrap P = u := ⟨_, rfl⟩
  obtain ⟨x, ex⟩ : ∃ u, X.tmod 300000000 = u := ⟨_, rfl⟩
  obtain ⟨y, ey⟩ : ∃ u, Y.tmod 300000000 = u := ⟨_, rfl⟩
  have u0 : 0 ≤ u := by rw [← eu, IntKind.wrap_u64]; omega
  have x0 := tmod_bd X 300000000 (by decide)
  have y0 := tmod_bd Y 300000000 (by decide)
  rw [ex] at x0
  rw [ey] at y0
  have hd : D % 4 = 0 ∨ D % 4 = 1 ∨ D % 4 = 2 ∨ D % 4 = 3 := by omega
  rcases hd with hd | hd | hd | hd
  · have eD : bits .and .i64 D 3 = 0 := by rw [mask3, hd]
    clear hd
    go_enter Try.func9, Try.ntmps9
    go_wp2
    go_region
    all_goals
      go_wp2
      refine bodyPost_ret (v := viewOf x y (u % 1000000 + 1) (W % 8 + 1) (H % 8 + 1) 0) (by simp [viewOf, results, Try.results9, go_sem]) rfl (tamed_mk _ _ _ _ _ _ _ _ 1 ⟨by omega, by omega, by omega, by omega, by omega, by omega, by omega, by omega, by omega, by omega, by omega, by omega⟩ ?_)
      go_grown
  · have eD : bits .and .i64 D 3 = 1 := by rw [mask3, hd]
    clear hd
    go_enter Try.func9, Try.ntmps9
    go_wp2
    go_region
    all_goals
      go_wp2
      refine bodyPost_ret (v := viewOf x y (2 * (u % 1000000 + 1)) (W % 8 + 1) (H % 8 + 1) 1) (by simp [viewOf, results, Try.results9, go_sem]) rfl (tamed_mk _ _ _ _ _ _ _ _ 2 ⟨by omega, by omega, by omega, by omega, by omega, by omega, by omega, by omega, by omega, by omega, by omega, by omega⟩ ?_)
      go_grown
  · have eD : bits .and .i64 D 3 = 2 := by rw [mask3, hd]
    clear hd
    go_enter Try.func9, Try.ntmps9
    go_wp2
    go_region
    all_goals
      go_wp2
      refine bodyPost_ret (v := viewOf x y (4 * (u % 1000000 + 1)) (W % 8 + 1) (H % 8 + 1) 2) (by simp [viewOf, results, Try.results9, go_sem]) rfl (tamed_mk _ _ _ _ _ _ _ _ 4 ⟨by omega, by omega, by omega, by omega, by omega, by omega, by omega, by omega, by omega, by omega, by omega, by omega⟩ ?_)
      go_grown
  · have eD : bits .and .i64 D 3 = 3 := by rw [mask3, hd]
    clear hd
    go_enter Try.func9, Try.ntmps9
    go_wp2
    go_region
    all_goals
      go_wp2
      refine bodyPost_ret (v := viewOf x y (8 * (u % 1000000 + 1)) (W % 8 + 1) (H % 8 + 1) 3) (by simp [viewOf, results, Try.results9, go_sem]) rfl (tamed_mk _ _ _ _ _ _ _ _ 8 ⟨by omega, by omega, by omega, by omega, by omega, by omega, by omega, by omega, by omega, by omega, by omega, by omega⟩ ?_)
      go_grown
end Go.Proofs.Ytcpfpefbpeidpaa
