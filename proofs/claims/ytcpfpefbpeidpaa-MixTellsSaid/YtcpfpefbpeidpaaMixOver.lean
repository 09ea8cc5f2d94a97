/- What mix.Over returns, in the plain law's words. -/
import Derived.Test.YtcpfpefbpeidpaaMix
import Derived.Test.YtcpfpefbpeidpaaMixC
import Derived.Test.YtcpfpefbpeidpaaMixLaw
namespace Go.Proofs.Ytcpfpefbpeidpaa
open Go.RowKit
theorem over (tl th c al vl vh n : Int) (t0 : 0 ≤ tl) (t1 : tl ≤ th) (t2 : th ≤ 16711680) (c0 : 0 ≤ c) (c1 : c ≤ 255) (a0 : 0 ≤ al) (a1 : al ≤ 255) (n0 : 1 ≤ n) (n1 : n ≤ 4096) (v0 : 0 ≤ vl) (v1 : vl ≤ vh) (v2 : vh ≤ n) (w : World) :
    Calls Try.prog 15 #[.agg #[.int .i64 tl, .int .i64 th], .int .i64 c, .int .i64 al, .agg #[.int .i64 vl, .int .i64 vh], .int .i64 n] w fun e w' =>
      e = .returned (.tuple #[.agg #[.int .i64 (loOf (255 * n) (65536 * c) tl (al * vl) (al * vh)), .int .i64 (hiOf (255 * n) (65536 * c) th (al * vl) (al * vh))], .bool true]) ∧ Below w.heap.size w w' := by
  have w0 := Int.mul_nonneg a0 v0
  have w1 : al * vl ≤ al * vh := Int.mul_le_mul_of_nonneg_left v1 a0
  have w2 : al * vh ≤ 255 * n := Int.mul_le_mul a1 v2 (by omega) (by omega)
  have bA : ∀ b W : Int, 0 ≤ b → b ≤ 16711680 → 0 ≤ W → W ≤ 255 * n → 0 ≤ b * (255 * n - W) ∧ b * (255 * n - W) ≤ 17592186044416 := by
    intro b W hb0 hb1 hW0 hW1
    have h1 := Int.mul_nonneg hb0 (show 0 ≤ 255 * n - W by omega)
    have h2 : b * (255 * n - W) ≤ 16711680 * 1044480 := Int.mul_le_mul hb1 (by omega) (by omega) (by omega)
    omega
  have bB : ∀ W : Int, 0 ≤ W → W ≤ 255 * n → 0 ≤ 65536 * c * W ∧ 65536 * c * W ≤ 17592186044416 := by
    intro W hW0 hW1
    have h1 := Int.mul_nonneg (show 0 ≤ 65536 * c by omega) hW0
    have h2 : 65536 * c * W ≤ 16711680 * 1044480 := Int.mul_le_mul (by omega) (by omega) (by omega) (by omega)
    omega
  have o1 : tl * (255 * n - al * vl) ≤ th * (255 * n - al * vl) := Int.mul_le_mul_of_nonneg_right t1 (by omega)
  have o2 : tl * (255 * n - al * vh) ≤ th * (255 * n - al * vh) := Int.mul_le_mul_of_nonneg_right t1 (by omega)
  obtain ⟨f1, f2⟩ := bA tl (al * vl) t0 (by omega) w0 (by omega)
  obtain ⟨f3, f4⟩ := bA th (al * vl) (by omega) t2 w0 (by omega)
  obtain ⟨f5, f6⟩ := bA tl (al * vh) t0 (by omega) (by omega) w2
  obtain ⟨f7, f8⟩ := bA th (al * vh) (by omega) t2 (by omega) w2
  obtain ⟨g0, g1⟩ := bB (al * vl) w0 (by omega)
  obtain ⟨g2, g3⟩ := bB (al * vh) (by omega) w2
  have h := over_core tl th c al vl vh n (255 * n) (65536 * c) (al * vl) (al * vh) _ _ _ _ _ _ t0 t1 t2 c0 c1 a0 a1 n0 n1 v0 v1 v2 rfl rfl rfl rfl rfl rfl rfl rfl rfl rfl w0 w1 w2 f1 f2 f3 f4 f5 f6 f7 f8 o1 o2 g0 g1 g2 g3 w
  exact h
theorem over_off (w : World) :
    Calls Try.prog 15 #[.agg #[.int .i64 0, .int .i64 0], .int .i64 256, .int .i64 0, .agg #[.int .i64 0, .int .i64 0], .int .i64 1] w fun e w' =>
      e = .returned (.tuple #[.agg #[.int .i64 0, .int .i64 0], .bool false]) ∧ Below w.heap.size w w' := by
  go_enter Try.func15, Try.ntmps15
  go_wp2_with fail
  exact bodyPost_ret (v := .tuple #[.agg #[.int .i64 0, .int .i64 0], .bool false]) (by simp [results, Try.results15, go_sem]) rfl ⟨rfl, by go_grown⟩
end Go.Proofs.Ytcpfpefbpeidpaa
