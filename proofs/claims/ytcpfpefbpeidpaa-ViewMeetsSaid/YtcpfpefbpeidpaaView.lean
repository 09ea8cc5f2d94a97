/- Walks: view.Ok, view.Cells, view.Pixel of the views that the laws of layer 22 make. -/
import Derived.Test.YtcpfpefbpeidpaaBase
namespace Go.Proofs.Ytcpfpefbpeidpaa
open Go.RowKit

set_option maxHeartbeats 400000 in
theorem boxok_yes (a b c d : Int) (w : World) (h0 : -536870912 ≤ a) (h1 : a ≤ c) (h2 : c ≤ 536870912) (g0 : -536870912 ≤ b) (g1 : b ≤ d) (g2 : d ≤ 536870912) :
    Calls Try.prog 30 #[.agg #[.int .i64 a, .int .i64 b, .int .i64 c, .int .i64 d]] w fun e w' => e = .returned (.bool true) ∧ Below w.heap.size w w' := by
  have e1 : -536870912 ≤ c := by omega
  have e2 : -536870912 ≤ d := by omega
  have e3 : a ≤ 536870912 := by omega
  have e4 : b ≤ 536870912 := by omega
  go_enter Try.func30, Try.ntmps30
  go_wp2
  go_ret
  exact ⟨rfl, by go_grown⟩

set_option maxHeartbeats 400000 in
theorem viewok_yes (X Y P W H D k : Int) (w : World) (x0 : -300000000 ≤ X) (x1 : X ≤ 300000000) (y0 : -300000000 ≤ Y) (y1 : Y ≤ 300000000) (p0 : 1 ≤ P) (p1 : P ≤ 8000000)
    (w0 : 1 ≤ W) (w1 : W ≤ 8) (h0 : 1 ≤ H) (h1 : H ≤ 8) (d : (D = 0 ∧ k = 1) ∨ (D = 1 ∧ k = 2) ∨ (D = 2 ∧ k = 4) ∨ (D = 3 ∧ k = 8)) (m : P % k = 0) (a0 : 0 ≤ W * P) (a1 : W * P ≤ 64000000) (b0 : 0 ≤ H * P) (b1 : H * P ≤ 64000000) :
    Calls Try.prog 24 #[.agg #[.int .i64 X, .int .i64 Y, .int .i64 P, .int .i64 W, .int .i64 H, .int .i64 D]] w fun e w' => e = .returned (.bool true) ∧ Below w.heap.size w w' := by
  have d1 : decide (P < 1) = false := by simp; omega
  have d2 : decide (536870912 < P) = false := by simp; omega
  have d4 : decide (W < 1) = false := by simp; omega
  have d5 : decide (H < 1) = false := by simp; omega
  have d6 : decide (256 < W) = false := by simp; omega
  have d7 : decide (256 < H) = false := by simp; omega
  rcases d with ⟨rfl, rfl⟩ | ⟨rfl, rfl⟩ | ⟨rfl, rfl⟩ | ⟨rfl, rfl⟩
  all_goals
    first | (have d3 : (P % 8 != 0) = false := by simp; omega) | (have d3 : (P % 4 != 0) = false := by simp; omega) | (have d3 : (P % 2 != 0) = false := by simp; omega) | (have d3 : (P % 1 != 0) = false := by simp)
    have M := Lib.hid m
    clear m
    go_enter Try.func24, Try.ntmps24
    go_wp2
    go_quiet (fail)
    go_wp2_with (go_at_call 30; refine (boxok_yes _ _ _ _ _ (by omega) (by omega) (by omega) (by omega) (by omega) (by omega)).mono ?_; rintro e w1 ⟨rfl, hb⟩)
    go_ret
    exact ⟨rfl, (((Below.refl _ _).alloc (Nat.le_refl _) _).trans (below_drewN (Below.refl _ _) _)).trans (hb.mono (by simp))⟩

set_option maxHeartbeats 400000 in
theorem viewok_none (w : World) :
    Calls Try.prog 24 #[.agg #[.int .i64 0, .int .i64 0, .int .i64 0, .int .i64 0, .int .i64 0, .int .i64 0]] w fun e w' => e = .returned (.bool false) ∧ Below w.heap.size w w' := by
  go_enter Try.func24, Try.ntmps24
  go_wp2
  go_quiet (fail)
  go_wp2
  go_ret
  exact ⟨rfl, (((Below.refl _ _).alloc (Nat.le_refl _) _).trans (below_drewN (Below.refl _ _) _))⟩

set_option maxHeartbeats 400000 in
theorem cells_none (w : World) :
    Calls Try.prog 25 #[.agg #[.int .i64 0, .int .i64 0, .int .i64 0, .int .i64 0, .int .i64 0, .int .i64 0]] w fun e w' => e = .returned (.int .i64 0) ∧ Below w.heap.size w w' := by
  go_enter Try.func25, Try.ntmps25
  go_wp2_with (go_at_call 24; refine (viewok_none _).mono ?_; rintro e w1 ⟨rfl, hb⟩)
  go_ret
  exact ⟨rfl, ((Below.refl _ _).alloc (Nat.le_refl _) _).trans (hb.mono (by simp))⟩

set_option maxHeartbeats 400000 in
theorem cells_two (w : World) :
    Calls Try.prog 25 #[.agg #[.int .i64 10, .int .i64 20, .int .i64 4, .int .i64 3, .int .i64 2, .int .i64 2]] w fun e w' => e = .returned (.int .i64 16) ∧ Below w.heap.size w w' := by
  go_enter Try.func25, Try.ntmps25
  go_wp2_with (go_at_call 24; refine (viewok_yes _ _ _ _ _ _ 4 _ (by decide) (by decide) (by decide) (by decide) (by decide) (by decide) (by decide) (by decide) (by decide) (by decide) (by decide) (by decide) (by decide) (by decide) (by decide) (by decide)).mono ?_; rintro e w1 ⟨rfl, hb⟩; obtain ⟨hc, hf⟩ := bcell hb)
  go_ret
  exact ⟨rfl, ((Below.refl _ _).alloc (Nat.le_refl _) _).trans (hb.mono (by simp))⟩

set_option maxHeartbeats 400000 in
theorem pixel_yes (X Y P W H D k x y A B : Int) (w : World) (x0 : -300000000 ≤ X) (x1 : X ≤ 300000000) (y0 : -300000000 ≤ Y) (y1 : Y ≤ 300000000) (p0 : 1 ≤ P) (p1 : P ≤ 8000000)
    (w0 : 1 ≤ W) (w1 : W ≤ 8) (h0 : 1 ≤ H) (h1 : H ≤ 8) (d : (D = 0 ∧ k = 1) ∨ (D = 1 ∧ k = 2) ∨ (D = 2 ∧ k = 4) ∨ (D = 3 ∧ k = 8)) (m : P % k = 0) (a0 : 0 ≤ W * P) (a1 : W * P ≤ 64000000) (b0 : 0 ≤ H * P) (b1 : H * P ≤ 64000000)
    (i0 : 0 ≤ x) (i1 : x < W) (j0 : 0 ≤ y) (j1 : y < H) (eA : x * P = A) (eB : (H - 1 - y) * P = B) (A0 : 0 ≤ A) (A1 : A ≤ 64000000) (B0 : 0 ≤ B) (B1 : B ≤ 64000000) :
    Calls Try.prog 10 #[.agg #[.int .i64 X, .int .i64 Y, .int .i64 P, .int .i64 W, .int .i64 H, .int .i64 D], .int .i64 x, .int .i64 y] w fun e w' => e = .returned (.tuple #[.agg #[.int .i64 (X + A), .int .i64 (Y + B), .int .i64 (X + A + P), .int .i64 (Y + B + P)], .bool true]) ∧ Below w.heap.size w w' := by
  have hd := Lib.hid d
  have M := Lib.hid m
  clear d m
  go_enter Try.func10, Try.ntmps10
  go_wp2_with (go_at_call 24; refine (viewok_yes _ _ _ _ _ _ k _ x0 x1 y0 y1 p0 p1 w0 w1 h0 h1 hd.out M.out a0 a1 b0 b1).mono ?_; rintro e w1 ⟨rfl, hb⟩; obtain ⟨hc, hf⟩ := bcell hb)
  have hB : Below w.heap.size w w1 := (((Below.refl _ _).alloc (Nat.le_refl _) _).alloc (by simp) _).trans (hb.mono (by simp; omega))
  exact bodyPost_ret (v := .tuple #[.agg #[.int .i64 (X + A), .int .i64 (Y + B), .int .i64 (X + A + P), .int .i64 (Y + B + P)], .bool true]) (by simp [results, Try.results10, go_sem, hc]) rfl ⟨rfl, by go_grown⟩

set_option maxHeartbeats 400000 in
theorem pixel_off (w : World) : Calls Try.prog 10 #[.agg #[.int .i64 10, .int .i64 20, .int .i64 4, .int .i64 3, .int .i64 2, .int .i64 2], .int .i64 3, .int .i64 0] w fun e w' => e = .returned (.tuple #[.agg #[.int .i64 0, .int .i64 0, .int .i64 0, .int .i64 0], .bool false]) ∧ Below w.heap.size w w' := by
  go_enter Try.func10, Try.ntmps10
  go_wp2_with (go_at_call 24; refine (viewok_yes _ _ _ _ _ _ 4 _ (by decide) (by decide) (by decide) (by decide) (by decide) (by decide) (by decide) (by decide) (by decide) (by decide) (by decide) (by decide) (by decide) (by decide) (by decide) (by decide)).mono ?_; rintro e w1 ⟨rfl, hb⟩; obtain ⟨hc, hf⟩ := bcell hb)
  have hB : Below w.heap.size w w1 := (((Below.refl _ _).alloc (Nat.le_refl _) _).alloc (by simp) _).trans (hb.mono (by simp; omega))
  exact bodyPost_ret (v := .tuple #[.agg #[.int .i64 0, .int .i64 0, .int .i64 0, .int .i64 0], .bool false]) (by simp [results, Try.results10, go_sem, hc]) rfl ⟨rfl, by go_grown⟩

def Lone (a b c d p q r s : Int) : Prop := c < p ∨ r < a ∨ d < q ∨ s < b

/-- heliographref1.Apart: true, or the boxes are not apart. -/
def ApartIs (a b c d p q r s : Int) (w : World) (e : Ending) (w' : World) : Prop := ∃ v : Bool, e = .returned (.bool v) ∧ (v = false → p ≤ c ∧ a ≤ r ∧ q ≤ d ∧ b ≤ s) ∧ Below w.heap.size w w'
theorem apartIs_mk {a b c d p q r s : Int} {w w' : World} (v : Bool) (h : v = false → p ≤ c ∧ a ≤ r ∧ q ≤ d ∧ b ≤ s) (hb : Below w.heap.size w w') : ApartIs a b c d p q r s w (.returned (.bool v)) w' := ⟨v, rfl, h, hb⟩

set_option maxHeartbeats 400000 in
theorem apart_any (a b c d p q r s : Int) (w : World) :
    Calls Try.prog 11 #[.agg #[.int .i64 a, .int .i64 b, .int .i64 c, .int .i64 d], .agg #[.int .i64 p, .int .i64 q, .int .i64 r, .int .i64 s]] w (ApartIs a b c d p q r s w) := by
  go_enter Try.func11, Try.ntmps11
  go_wp2
  all_goals
    go_ret
    refine apartIs_mk _ (by simp; try omega) ?_
    go_grown
end Go.Proofs.Ytcpfpefbpeidpaa
