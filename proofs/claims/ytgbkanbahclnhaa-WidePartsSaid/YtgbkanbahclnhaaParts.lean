/- A walk: heliographlaw1.WideParts returns true. -/
import Derived.Test.YtgbkanbahclnhaaWideB
namespace Go.Proofs.Ytgbkanbahclnhaa
open Go.RowKit Go.Sort

set_option maxRecDepth 100000 in
set_option maxHeartbeats 1000000 in
theorem parts (a b c : Nat) (ha : a < lim) (hb0 : b < lim) (hc0 : c < lim) (w : World) :
    Calls Try.prog 9 #[.int .u64 a, .int .u64 b, .int .u64 c] w fun e w' => e = .returned (.bool true) ∧ Below w.heap.size w w' := by
  obtain ⟨B, eB⟩ : ∃ n : Nat, (b : Int) / 2 = n := ⟨b / 2, by omega⟩
  obtain ⟨C, eC⟩ : ∃ n : Nat, (c : Int) / 2 = n := ⟨c / 2, by omega⟩
  have hB : 2 * B < lim := by rw [lim_eq] at *; omega
  have hC : 2 * C < lim := by rw [lim_eq] at *; omega
  have hB1 : B < lim := by omega
  have hC1 : C < lim := by omega
  have hBC : B + C < lim := by omega
  have h1 := mul_lt a B ha hB1
  have h2 := mul_lt a C ha hC1
  have h3 := mul_lt a (B + C) ha hBC
  have hs : a * B + a * C < lim * lim := by rw [← Nat.mul_add]; exact h3
  have m1 := fun w => mulc a B ha hB1 rfl rfl rfl rfl w
  have m2 := fun w => mulc a C ha hC1 rfl rfl rfl rfl w
  have m3 := fun w => addc (a * B) (a * C) h1 h2 hs rfl rfl rfl rfl rfl rfl w
  obtain ⟨S, eS⟩ : ∃ n : Int, (B : Int) + (C : Int) = n := ⟨_, rfl⟩
  have hS0 : 0 ≤ S := by omega
  have hS1 : S ≤ 18446744073709551615 := by rw [lim_eq] at *; omega
  have m4 := fun w d os => mulr a (B + C) ha hBC rfl (show ((B + C : Nat) : Int) = S by omega) (show ((hiN (a * (B + C)) : Nat) : Int) = ((hiN (a * B + a * C) : Nat) : Int) by rw [Nat.mul_add]) (show ((loN (a * (B + C)) : Nat) : Int) = ((loN (a * B + a * C) : Nat) : Int) by rw [Nat.mul_add]) w d os
  have m5 := fun w d os => mulr a B ha hB1 rfl rfl rfl rfl w d os
  have m6 := fun w d os => mulr B a hB1 ha rfl rfl (show ((hiN (B * a) : Nat) : Int) = ((hiN (a * B) : Nat) : Int) by rw [Nat.mul_comm]) (show ((loN (B * a) : Nat) : Int) = ((loN (a * B) : Nat) : Int) by rw [Nat.mul_comm]) w d os
  obtain ⟨x, ex⟩ : ∃ n : Nat, bits .and .u64 (a : Int) 4294967295 = n := ⟨_, M.maskN a ha⟩
  obtain ⟨y, ey⟩ : ∃ n : Nat, bits .and .u64 (B : Int) 4294967295 = n := ⟨_, M.maskN B hB1⟩
  have hx : x < 4294967296 := by have := M.maskN a ha; rw [ex] at this; omega
  have hy : y < 4294967296 := by have := M.maskN B hB1; rw [ey] at this; omega
  have hxy : x * y < lim := by rw [lim_eq]; exact Nat.mul_lt_mul'' hx hy
  have hx1 : x < lim := by rw [lim_eq]; omega
  have hy1 : y < lim := by rw [lim_eq]; omega
  obtain ⟨z, ez⟩ : ∃ n : Nat, IntKind.u64.wrap ((x : Int) * (y : Int)) = n := ⟨x * y, by rw [M.mulN, M.wrapN _ hxy]⟩
  have ez' : z = x * y := by have := ez; rw [M.mulN, M.wrapN _ hxy] at this; omega
  have m7 := fun w d os => mulr x y hx1 hy1 rfl rfl (H := 0) (L := z) (by rw [lim_eq] at hxy; unfold hiN; omega) (by rw [ez', lim_eq] at *; unfold loN; omega) w d os
  have m8 := fun w d os => mulr a 0 ha (by decide) rfl (show ((0 : Nat) : Int) = 0 from rfl) (H := 0) (L := 0) (by rw [Nat.mul_zero]; rfl) (by rw [Nat.mul_zero]; rfl) w d os
  have m9 := fun w d os => mulr a 1 ha (by decide) rfl (show ((1 : Nat) : Int) = 1 from rfl) (H := 0) (L := a) (by rw [lim_eq] at ha; unfold hiN; omega) (by rw [lim_eq] at ha; unfold loN; omega) w d os
  have m10 : ∀ w d os, Calls Try.prog 19 #[] (grow (redrawn w d) os) fun e w'' => e = .returned (.bool true) ∧ ∃ p : Regrown, w'' = grow (redrawn w p.d) p.os := fun w d os => Calls.regrown_of (awake1 _)
  generalize hiN (a * B + a * C) = H at *
  generalize loN (a * B + a * C) = L at *
  generalize hiN (a * B) = H1 at *
  generalize loN (a * B) = L1 at *
  generalize hiN (a * C) = H2 at *
  generalize loN (a * C) = L2 at *
  have M1 := Lib.hid m1; have M2 := Lib.hid m2; have M3 := Lib.hid m3; have M4 := Lib.hid m4; have M5 := Lib.hid m5
  have M6 := Lib.hid m6; have M7 := Lib.hid m7; have M8 := Lib.hid m8; have M9 := Lib.hid m9; have M10 := Lib.hid m10
  clear m1 m2 m3 m4 m5 m6 m7 m8 m9 m10 ez' h1 h2 h3 hs
  go_enter Try.func9, Try.ntmps9
  go_wp2_with fail
  refine (M1.out _).mono ?_
  rintro e w1 ⟨rfl, hb⟩
  have hW1 : Below w.heap.size w w1 := hb
  clear hb
  have l1 := hW1.size
  go_wp2_with fail
  refine (M2.out _).mono ?_
  rintro e w2 ⟨rfl, hb⟩
  have hW2 : Below w.heap.size w w2 := hW1.trans (hb.mono l1)
  clear hb hW1 l1
  have l2 := hW2.size
  go_wp2_with fail
  refine (M3.out _).mono ?_
  rintro e w3 ⟨rfl, hb⟩
  have hW3 : Below w.heap.size w w3 := hW2.trans (hb.mono l2)
  clear hb hW2 l2
  have l3 := hW3.size
  go_wp2_with fail
  have k0 := cell_regrown (w := w3.alloc (.cells #[.int .u64 H, .int .u64 L] 44)) (a := ⟨w3.heap.size, 0, none⟩) (v := .int .u64 H) (by simp)
  have k1 := cell_regrown (w := w3.alloc (.cells #[.int .u64 H, .int .u64 L] 44)) (a := ⟨w3.heap.size, 1, none⟩) (v := .int .u64 L) (by simp)
  refine wp_region_quiet_below (by kernel_rfl) (by kernel_rfl) ?_
  repeat (first | go_big_quiet_step (first | (with_reducible exact M4.out _ _ _) | (with_reducible exact M5.out _ _ _) | (with_reducible exact M6.out _ _ _) | (with_reducible exact M7.out _ _ _) | (with_reducible exact M8.out _ _ _) | (with_reducible exact M9.out _ _ _) | (with_reducible exact M10.out _ _ _)) | quiet_step (first | (with_reducible exact M4.out _ _ _) | (with_reducible exact M5.out _ _ _) | (with_reducible exact M6.out _ _ _) | (with_reducible exact M7.out _ _ _) | (with_reducible exact M8.out _ _ _) | (with_reducible exact M9.out _ _ _) | (with_reducible exact M10.out _ _ _)))
  refine wpQuiet_nil ?_
  intro _ hw'
  obtain ⟨⟨dq, osq⟩, hw''⟩ := hw'
  subst hw''
  go_wp2
  go_ret
  exact ⟨rfl, (hW3.alloc l3 _).trans ((below_regrown _ dq osq).mono (by simp; omega))⟩
end Go.Proofs.Ytgbkanbahclnhaa
