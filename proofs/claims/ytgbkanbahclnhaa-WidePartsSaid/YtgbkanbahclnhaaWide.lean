/- Walks: package wide: Mul, Sq, Abs, Add, Cmp: what each returns, as natural numbers. -/
import Derived.Test.YtgbkanbahclnhaaBase
namespace Go.Proofs.Ytgbkanbahclnhaa
open Go.RowKit

set_option maxHeartbeats 1000000 in
theorem mul64 (x y : Nat) (hx0 : x < lim) (hy0 : y < lim) (w : World) :
    Calls Try.prog 29 #[.int .u64 x, .int .u64 y] w fun e w' => e = .returned (.tuple #[.int .u64 (hiN (x * y) : Nat), .int .u64 (loN (x * y) : Nat)]) ∧ w = w' := by
  have hx : x < 18446744073709551616 := hx0
  have hy : y < 18446744073709551616 := hy0
  clear hx0 hy0
  obtain ⟨bd, bt, bw, hhi⟩ := Lib.mul64_hi x y hx hy
  have ba := Lib.half_mul_le (a := x / 4294967296) (b := y / 4294967296) (by omega) (by omega)
  have bb := Lib.half_mul_le (a := x / 4294967296) (b := y % 4294967296) (by omega) (by omega)
  have bc := Lib.half_mul_le (a := x % 4294967296) (b := y / 4294967296) (by omega) (by omega)
  have ba' : x / 4294967296 * (y / 4294967296) < 18446744073709551616 := by omega
  have bb' : x / 4294967296 * (y % 4294967296) < 18446744073709551616 := by omega
  have bc' : x % 4294967296 * (y / 4294967296) < 18446744073709551616 := by omega
  have bh1 : x / 4294967296 * (y / 4294967296) + (x / 4294967296 * (y % 4294967296) + x % 4294967296 * (y % 4294967296) / 4294967296) / 4294967296 < 18446744073709551616 := by omega
  have bh : x / 4294967296 * (y / 4294967296) + (x / 4294967296 * (y % 4294967296) + x % 4294967296 * (y % 4294967296) / 4294967296) / 4294967296 + ((x / 4294967296 * (y % 4294967296) + x % 4294967296 * (y % 4294967296) / 4294967296) % 4294967296 + x % 4294967296 * (y / 4294967296)) / 4294967296 < 18446744073709551616 := by omega
  go_enter Try.func29, Try.ntmps29
  go_wp2
  simp only [M.maskN x hx, M.maskN y hy, M.divN, M.mulN, M.addN, M.wrapN _ bd, M.wrapN _ bb', M.wrapN _ bt, M.maskN _ bt, M.wrapN _ bc', M.wrapN _ bw, M.wrapN _ ba', M.wrapN _ bh1, M.wrapN _ bh, M.wrapM (x * y)]
  rw [hhi]
  go_ret2
  exact ⟨rfl, rfl⟩

set_option maxHeartbeats 400000 in
theorem wmul (x y : Nat) (hx : x < lim) (hy : y < lim) (w : World) :
    Calls Try.prog 17 #[.int .u64 x, .int .u64 y] w fun e w' => e = .returned (.agg #[.int .u64 (hiN (x * y) : Nat), .int .u64 (loN (x * y) : Nat)]) ∧ Below w.heap.size w w' := by
  go_enter Try.func17, Try.ntmps17
  go_wp2_with (go_at_call 29; refine (mul64 _ _ hx hy _).mono ?_; rintro e w1 ⟨rfl, rfl⟩)
  exact bodyPost_ret (v := .agg #[.int .u64 (hiN (x * y) : Nat), .int .u64 (loN (x * y) : Nat)]) (by simp [results, Try.results17, go_sem]) rfl ⟨rfl, by go_grown⟩

theorem add64 (x y c : Nat) (hx : x < lim) (hy : y < lim) (hc : c ≤ 1) (w : World) :
    (callFunc 30 #[.int .u64 x, .int .u64 y, .int .u64 c]).run Try.prog w =
      .ok (.value (.tuple #[.int .u64 (loN (x + y + c) : Nat), .int .u64 (hiN (x + y + c) : Nat)])) w := by
  rw [run_callFunc_extern Try.func30 (by kernel_rfl) (by kernel_rfl) (by kernel_rfl) (e := add64Entry) (by kernel_rfl), run_add64 x y c (by rw [lim_eq] at hx; omega) (by rw [lim_eq] at hy; omega) (by omega) (by omega)]
  simp only [Result.andThen]
  unfold loN hiN
  congr 5 <;> omega

theorem sum_low (ah al bh bl : Nat) : loN (val ah al + val bh bl) = loN (al + bl + 0) := by unfold loN val; omega
theorem sum_yes (ah al bh bl : Nat) (h : val ah al + val bh bl < lim * lim) : loN (ah + bh + hiN (al + bl + 0)) = hiN (val ah al + val bh bl) ∧ hiN (ah + bh + hiN (al + bl + 0)) = 0 := by
  rw [lim_eq] at h; unfold loN hiN val at *; omega
theorem sum_no (ah al bh bl : Nat) (h1 : ah < lim) (h2 : al < lim) (h3 : bh < lim) (h4 : bl < lim) (h : ¬ val ah al + val bh bl < lim * lim) : hiN (ah + bh + hiN (al + bl + 0)) = 1 := by
  rw [lim_eq] at *; unfold hiN val at *; omega

set_option maxHeartbeats 400000 in
theorem wadd_yes (ah al bh bl : Nat) (h1 : ah < lim) (h2 : al < lim) (h3 : bh < lim) (h4 : bl < lim) (h : val ah al + val bh bl < lim * lim) (w : World) :
    Calls Try.prog 18 #[.agg #[.int .u64 ah, .int .u64 al], .agg #[.int .u64 bh, .int .u64 bl]] w fun e w' =>
      e = .returned (.tuple #[.agg #[.int .u64 (hiN (val ah al + val bh bl) : Nat), .int .u64 (loN (val ah al + val bh bl) : Nat)], .bool true]) ∧ Below w.heap.size w w' := by
  have c1 : hiN (al + bl + 0) ≤ 1 := by rw [lim_eq] at *; unfold hiN; omega
  have e1 := fun w => add64 al bl 0 h2 h4 (by omega) w
  have e2 := fun w => add64 ah bh _ h1 h3 c1 w
  obtain ⟨y1, y2⟩ := sum_yes ah al bh bl h
  rw [y1, y2] at e2
  rw [← sum_low ah al bh bl] at e1
  generalize hiN (al + bl + 0) = c at *
  generalize hiN (val ah al + val bh bl) = H at *
  generalize loN (val ah al + val bh bl) = L at *
  have e3 : ∀ w, (callFunc 30 #[.int .u64 al, .int .u64 bl, .int .u64 0]).run Try.prog w = .ok (.value (.tuple #[.int .u64 L, .int .u64 c])) w := e1
  have e4 : ∀ w, (callFunc 30 #[.int .u64 ah, .int .u64 bh, .int .u64 c]).run Try.prog w = .ok (.value (.tuple #[.int .u64 H, .int .u64 0])) w := e2
  clear e1 e2 y1 y2 h c1
  go_enter Try.func18, Try.ntmps18
  go_wp2_with fail
  exact bodyPost_ret (v := .tuple #[.agg #[.int .u64 H, .int .u64 L], .bool true]) (by simp [results, Try.results18, go_sem]) rfl ⟨rfl, by go_grown⟩

set_option maxHeartbeats 400000 in
theorem wadd_no (ah al bh bl : Nat) (h1 : ah < lim) (h2 : al < lim) (h3 : bh < lim) (h4 : bl < lim) (h : ¬ val ah al + val bh bl < lim * lim) (w : World) :
    Calls Try.prog 18 #[.agg #[.int .u64 ah, .int .u64 al], .agg #[.int .u64 bh, .int .u64 bl]] w fun e w' =>
      e = .returned (.tuple #[.agg #[.int .u64 0, .int .u64 0], .bool false]) ∧ Below w.heap.size w w' := by
  have c1 : hiN (al + bl + 0) ≤ 1 := by rw [lim_eq] at *; unfold hiN; omega
  have e1 := fun w => add64 al bl 0 h2 h4 (by omega) w
  have e2 := fun w => add64 ah bh _ h1 h3 c1 w
  rw [sum_no ah al bh bl h1 h2 h3 h4 h] at e2
  generalize loN (ah + bh + hiN (al + bl + 0)) = H at *
  generalize hiN (al + bl + 0) = c at *
  generalize loN (al + bl + 0) = L at *
  have e3 : ∀ w, (callFunc 30 #[.int .u64 al, .int .u64 bl, .int .u64 0]).run Try.prog w = .ok (.value (.tuple #[.int .u64 L, .int .u64 c])) w := e1
  have e4 : ∀ w, (callFunc 30 #[.int .u64 ah, .int .u64 bh, .int .u64 c]).run Try.prog w = .ok (.value (.tuple #[.int .u64 H, .int .u64 1])) w := e2
  clear e1 e2 h c1
  go_enter Try.func18, Try.ntmps18
  go_wp2_with fail
  exact bodyPost_ret (v := .tuple #[.agg #[.int .u64 0, .int .u64 0], .bool false]) (by simp [results, Try.results18, go_sem]) rfl ⟨rfl, by go_grown⟩

set_option maxHeartbeats 400000 in
theorem isnan (x : Int) (w : World) : Calls Try.prog 33 #[.int .u64 x] w fun e w' => e = .returned (.bool false) ∧ w = w' := by
  go_enter Try.func33, Try.ntmps33
  go_wp2
  go_ret
  exact ⟨by simp, rfl⟩

/-- -1, 0 or 1. -/
def cmpN (a b : Nat) : Int := if a < b then -1 else if a = b then 0 else 1
theorem cmp_lt {a b : Nat} (h : a < b) : cmpN a b = -1 := if_pos h
theorem cmp_gt {a b : Nat} (h : b < a) : cmpN a b = 1 := by unfold cmpN; rw [if_neg (by omega), if_neg (by omega)]
theorem cmp_eq {a b : Nat} (h : a = b) : cmpN a b = 0 := by unfold cmpN; rw [if_neg (by omega), if_pos h]

set_option maxHeartbeats 400000 in
theorem compare (a b : Nat) (w : World) : Calls Try.prog 31 #[.int .u64 a, .int .u64 b] w fun e w' => e = .returned (.int .i64 (cmpN a b)) ∧ w = w' := by
  rcases Nat.lt_trichotomy a b with h | h | h
  · rw [cmp_lt h]
    go_enter Try.func31, Try.ntmps31
    go_wp2_with (go_at_call 33; refine (isnan _ _).mono ?_; rintro e w1 ⟨rfl, rfl⟩)
    go_ret
    exact ⟨rfl, rfl⟩
  · rw [cmp_eq h]
    subst h
    go_enter Try.func31, Try.ntmps31
    go_wp2_with (go_at_call 33; refine (isnan _ _).mono ?_; rintro e w1 ⟨rfl, rfl⟩)
    go_ret
    exact ⟨rfl, rfl⟩
  · rw [cmp_gt h]
    go_enter Try.func31, Try.ntmps31
    go_wp2_with (go_at_call 33; refine (isnan _ _).mono ?_; rintro e w1 ⟨rfl, rfl⟩)
    go_ret
    exact ⟨rfl, rfl⟩

theorem cmp_val_ne (ah al bh bl : Nat) (h2 : al < lim) (h4 : bl < lim) (h : ah ≠ bh) : cmpN (val ah al) (val bh bl) = cmpN ah bh := by
  rw [lim_eq] at *
  rcases Nat.lt_or_gt_of_ne h with h | h
  · rw [cmp_lt h, cmp_lt (by unfold val; omega)]
  · rw [cmp_gt h, cmp_gt (by unfold val; omega)]
theorem cmp_val_eq (ah al bl : Nat) : cmpN (val ah al) (val ah bl) = cmpN al bl := by
  rcases Nat.lt_trichotomy al bl with h | h | h
  · rw [cmp_lt h, cmp_lt (by unfold val; omega)]
  · rw [cmp_eq h, cmp_eq (by unfold val; omega)]
  · rw [cmp_gt h, cmp_gt (by unfold val; omega)]

set_option maxHeartbeats 400000 in
theorem wcmp (ah al bh bl : Nat) (h2 : al < lim) (h4 : bl < lim) (w : World) :
    Calls Try.prog 26 #[.agg #[.int .u64 ah, .int .u64 al], .agg #[.int .u64 bh, .int .u64 bl]] w fun e w' => e = .returned (.int .i64 (cmpN (val ah al) (val bh bl))) ∧ Below w.heap.size w w' := by
  by_cases h : ah = bh
  · subst h
    rw [cmp_val_eq]
    go_enter Try.func26, Try.ntmps26
    go_wp2_with (go_at_call 31; refine (compare _ _ _).mono ?_; rintro e w1 ⟨rfl, rfl⟩)
    go_ret
    exact ⟨rfl, by go_grown⟩
  · rw [cmp_val_ne _ _ _ _ h2 h4 h]
    have hb : ((ah : Int) != bh) = true := by simp; omega
    clear h
    go_enter Try.func26, Try.ntmps26
    go_wp2_with (go_at_call 31; refine (compare _ _ _).mono ?_; rintro e w1 ⟨rfl, rfl⟩)
    go_ret
    exact ⟨rfl, by go_grown⟩

theorem ret_int {k : IntKind} {a b : Int} (h : a = b) : Ending.returned (.int k a) = .returned (.int k b) := by rw [h]

set_option maxHeartbeats 400000 in
theorem wabs (v : Int) (h0 : -9223372036854775808 ≤ v) (h1 : v ≤ 9223372036854775807) (w : World) :
    Calls Try.prog 21 #[.int .i64 v] w fun e w' => e = .returned (.int .u64 (v.natAbs : Nat)) ∧ w = w' := by
  by_cases h : v < 0
  · go_enter Try.func21, Try.ntmps21
    go_wp2
    go_ret
    refine ⟨?_, rfl⟩
    simp only [IntKind.wrap_u64]
    exact ret_int (by omega)
  · go_enter Try.func21, Try.ntmps21
    go_wp2
    go_ret
    exact ⟨ret_int (by omega), rfl⟩

theorem natAbs_lt (v : Int) (h0 : -9223372036854775808 ≤ v) (h1 : v ≤ 9223372036854775807) : v.natAbs < lim := by rw [lim_eq]; omega

set_option maxHeartbeats 400000 in
theorem wsq (v : Int) (h0 : -9223372036854775808 ≤ v) (h1 : v ≤ 9223372036854775807) (w : World) :
    Calls Try.prog 24 #[.int .i64 v] w fun e w' => e = .returned (.agg #[.int .u64 (hiN (v.natAbs * v.natAbs) : Nat), .int .u64 (loN (v.natAbs * v.natAbs) : Nat)]) ∧ Below w.heap.size w w' := by
  have hl := natAbs_lt v h0 h1
  have ha := fun w => wabs v h0 h1 w
  generalize v.natAbs = n at *
  have HA := Lib.hid ha
  clear ha
  go_enter Try.func24, Try.ntmps24
  go_wp2_with fail
  refine (HA.out _).mono ?_
  rintro e w1 ⟨rfl, rfl⟩
  go_wp2_with fail
  refine (wmul _ _ hl hl _).mono ?_
  rintro e w1 ⟨rfl, hb⟩
  have hz : w.heap.size < w1.heap.size := by have := hb.size; simp at this; omega
  have hB : Below w.heap.size w w1 := ((Below.refl _ _).alloc (Nat.le_refl _) _).trans (hb.mono (by simp))
  have k0 : Blk w1 w.heap.size 44 #[.int .u64 0, .int .u64 0] := Blk.below (Blk.new _ _ _) hb (by simp)
  have c0 := k0.cell
  have f0 := k0.frozen
  clear hb
  go_wp2_with fail
  exact bodyPost_ret (v := .agg #[.int .u64 (hiN (n * n) : Nat), .int .u64 (loN (n * n) : Nat)]) (by simp [results, Try.results24, go_sem, c0]) rfl ⟨rfl, by go_grown⟩
end Go.Proofs.Ytgbkanbahclnhaa
