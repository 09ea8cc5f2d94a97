/- Walks: the reference's Abs, Mul, Sq, Add, Cmp: what each returns, as natural numbers. -/
import Derived.Test.YtgbkanbahclnhaaWideB
namespace Go.Proofs.Ytgbkanbahclnhaa
open Go.RowKit Go.Sort
set_option linter.unusedVariables false

set_option maxHeartbeats 400000 in
theorem rabs (v : Int) (h0 : -9223372036854775808 ≤ v) (h1 : v ≤ 9223372036854775807) (w : World) :
    Calls Try.prog 22 #[.int .i64 v] w fun e w' => e = .returned (.int .u64 (v.natAbs : Nat)) ∧ w = w' := by
  by_cases h : v < 0
  · go_enter Try.func22, Try.ntmps22
    go_wp2
    go_ret
    exact ⟨ret_int (by omega), rfl⟩
  · go_enter Try.func22, Try.ntmps22
    go_wp2
    go_ret
    exact ⟨ret_int (by omega), rfl⟩

theorem or_join (x y : Nat) (hx : x < 18446744073709551616) (hm : x % 4294967296 = 0) (hy : y < 4294967296) : bits .or .u64 (x : Int) (y : Int) = ((x + y : Nat) : Int) := by
  rw [u64_or_nat x y hx (by omega)]
  have h : x = x / 4294967296 * 2 ^ 32 := by omega
  have e : x ||| y = x + y := by
    rw [h, ← Nat.shiftLeft_eq, Nat.shiftLeft_add_eq_or_of_lt (by omega)]
  rw [e]

theorem mul_parts (x y u v : Nat) (bx : x < 4294967296) (by' : y < 4294967296) (bu : u < 4294967296) (bv : v < 4294967296) :
    x * u + x * v / 4294967296 + y * u / 4294967296 + (y * v / 4294967296 + x * v % 4294967296 + y * u % 4294967296) / 4294967296 = hiN ((x * 4294967296 + y) * (u * 4294967296 + v)) ∧
    (y * v / 4294967296 + x * v % 4294967296 + y * u % 4294967296) * 4294967296 % 18446744073709551616 + y * v % 4294967296 = loN ((x * 4294967296 + y) * (u * 4294967296 + v)) := by
  rw [Lib.split_mul]
  have h1 := Lib.half_mul_le (a := x) (b := u) (by omega) (by omega)
  have h2 := Lib.half_mul_le (a := x) (b := v) (by omega) (by omega)
  have h3 := Lib.half_mul_le (a := y) (b := u) (by omega) (by omega)
  have h4 := Lib.half_mul_le (a := y) (b := v) (by omega) (by omega)
  unfold hiN loN
  generalize x * u = a at *
  generalize x * v = b at *
  generalize y * u = c at *
  generalize y * v = d at *
  constructor <;> omega

set_option maxHeartbeats 1000000 in
theorem rmul (a b : Nat) (ha : a < lim) (hb0 : b < lim) (w : World) :
    Calls Try.prog 23 #[.int .u64 a, .int .u64 b] w fun e w' => e = .returned (.agg #[.int .u64 (hiN (a * b) : Nat), .int .u64 (loN (a * b) : Nat)]) ∧ Below w.heap.size w w' := by
  obtain ⟨x, ex, bx⟩ : ∃ n : Nat, (a : Int) / 4294967296 = n ∧ n < 4294967296 := ⟨a / 4294967296, by omega, by rw [lim_eq] at ha; omega⟩
  obtain ⟨y, ey, by'⟩ : ∃ n : Nat, bits .and .u64 (a : Int) 4294967295 = n ∧ n < 4294967296 := ⟨_, M.maskN a ha, by omega⟩
  obtain ⟨u, eu, bu⟩ : ∃ n : Nat, (b : Int) / 4294967296 = n ∧ n < 4294967296 := ⟨b / 4294967296, by omega, by rw [lim_eq] at hb0; omega⟩
  obtain ⟨v, ev, bv⟩ : ∃ n : Nat, bits .and .u64 (b : Int) 4294967295 = n ∧ n < 4294967296 := ⟨_, M.maskN b hb0, by omega⟩
  have hya : a = x * 4294967296 + y := by have := M.maskN a ha; rw [ey] at this; omega
  have hyb : b = u * 4294967296 + v := by have := M.maskN b hb0; rw [ev] at this; omega
  obtain ⟨p1, p2⟩ := mul_parts x y u v bx by' bu bv
  rw [← hya, ← hyb] at p1 p2
  have w1 : x * u < lim := by rw [lim_eq]; exact Nat.mul_lt_mul'' bx bu
  have w2 : y * v < lim := by rw [lim_eq]; exact Nat.mul_lt_mul'' by' bv
  have w3 : x * v < lim := by rw [lim_eq]; exact Nat.mul_lt_mul'' bx bv
  have w4 : y * u < lim := by rw [lim_eq]; exact Nat.mul_lt_mul'' by' bu
  have hlt : hiN (a * b) < lim := hi_lt _ (mul_lt a b ha hb0)
  clear hya hyb
  have e1 : IntKind.u64.wrap ((x : Int) * u) = ((x * u : Nat) : Int) := by rw [M.mulN, M.wrapN _ w1]
  have e2 : IntKind.u64.wrap ((y : Int) * v) = ((y * v : Nat) : Int) := by rw [M.mulN, M.wrapN _ w2]
  have e3 : IntKind.u64.wrap ((x : Int) * v) = ((x * v : Nat) : Int) := by rw [M.mulN, M.wrapN _ w3]
  have e4 : IntKind.u64.wrap ((y : Int) * u) = ((y * u : Nat) : Int) := by rw [M.mulN, M.wrapN _ w4]
  generalize hiN (a * b) = HI at *
  generalize loN (a * b) = LO at *
  generalize x * u = p at *
  generalize x * v = q at *
  generalize y * u = s at *
  generalize y * v = t at *
  obtain ⟨q0, g1, c1⟩ : ∃ n : Nat, bits .and .u64 (q : Int) 4294967295 = n ∧ n = q % 4294967296 := ⟨_, M.maskN q w3, rfl⟩
  obtain ⟨s0, g2, c2⟩ : ∃ n : Nat, bits .and .u64 (s : Int) 4294967295 = n ∧ n = s % 4294967296 := ⟨_, M.maskN s w4, rfl⟩
  obtain ⟨t0, g3, c3⟩ : ∃ n : Nat, bits .and .u64 (t : Int) 4294967295 = n ∧ n = t % 4294967296 := ⟨_, M.maskN t w2, rfl⟩
  obtain ⟨q1, g4, c4⟩ : ∃ n : Nat, (q : Int) / 4294967296 = n ∧ n = q / 4294967296 := ⟨_, M.divN q, rfl⟩
  obtain ⟨s1, g5, c5⟩ : ∃ n : Nat, (s : Int) / 4294967296 = n ∧ n = s / 4294967296 := ⟨_, M.divN s, rfl⟩
  obtain ⟨t1, g6, c6⟩ : ∃ n : Nat, (t : Int) / 4294967296 = n ∧ n = t / 4294967296 := ⟨_, M.divN t, rfl⟩
  rw [← c1, ← c2, ← c3, ← c6] at p2
  rw [← c1, ← c2, ← c4, ← c5, ← c6] at p1
  rw [lim_eq] at w2 w3 w4 hlt w1
  have d1 : q0 < 4294967296 := by omega
  have d2 : s0 < 4294967296 := by omega
  have d3 : t0 < 4294967296 := by omega
  have d4 : q1 < 4294967296 := by omega
  have d5 : s1 < 4294967296 := by omega
  have d6 : t1 < 4294967296 := by omega
  clear c1 c2 c3 c4 c5 c6
  obtain ⟨m, em⟩ : ∃ n : Nat, t1 + q0 + s0 = n := ⟨_, rfl⟩
  have g7 : (t1 : Int) + q0 + s0 = m := by omega
  rw [em] at p1 p2
  obtain ⟨m1, g8, c8⟩ : ∃ n : Nat, (m : Int) / 4294967296 = n ∧ n = m / 4294967296 := ⟨_, M.divN m, rfl⟩
  obtain ⟨m2, g9, c9⟩ : ∃ n : Nat, IntKind.u64.wrap ((m : Int) * 4294967296) = n ∧ n = m * 4294967296 % 18446744073709551616 := ⟨_, by rw [show ((m : Int) * 4294967296) = ((m * 4294967296 : Nat) : Int) by omega, M.wrapM], rfl⟩
  have g10 : bits .or .u64 (m2 : Int) (t0 : Int) = LO := by rw [or_join m2 t0 (by omega) (by omega) d3]; omega
  rw [← c8] at p1
  have g11 : (p : Int) + q1 + s1 + m1 = HI := by omega
  have k1 : p + q1 + s1 + m1 < 18446744073709551616 := by omega
  clear p1 p2 c8 c9 em hlt
  go_enter Try.func23, Try.ntmps23
  go_wp2
  exact bodyPost_ret (v := .agg #[.int .u64 (HI : Nat), .int .u64 (LO : Nat)]) (by simp [results, Try.results23, go_sem]) rfl ⟨rfl, by go_grown⟩

set_option maxHeartbeats 400000 in
theorem rsq (v : Int) (h0 : -9223372036854775808 ≤ v) (h1 : v ≤ 9223372036854775807) (w : World) :
    Calls Try.prog 25 #[.int .i64 v] w fun e w' => e = .returned (.agg #[.int .u64 (hiN (v.natAbs * v.natAbs) : Nat), .int .u64 (loN (v.natAbs * v.natAbs) : Nat)]) ∧ Below w.heap.size w w' := by
  have hl := natAbs_lt v h0 h1
  have ha := fun w => rabs v h0 h1 w
  generalize v.natAbs = n at *
  have HA := Lib.hid ha
  clear ha
  go_enter Try.func25, Try.ntmps25
  go_wp2_with fail
  refine (HA.out _).mono ?_
  rintro e w1 ⟨rfl, rfl⟩
  go_wp2_with fail
  refine (HA.out _).mono ?_
  rintro e w1 ⟨rfl, rfl⟩
  go_wp2_with fail
  refine (rmul _ _ hl hl _).mono ?_
  rintro e w1 ⟨rfl, hb⟩
  have hB : Below w.heap.size w w1 := ((Below.refl _ _).alloc (Nat.le_refl _) _).trans (hb.mono (by simp))
  have k0 : Blk w1 w.heap.size 44 #[.int .u64 0, .int .u64 0] := Blk.below (Blk.new _ _ _) hb (by simp)
  have c0 := k0.cell
  have f0 := k0.frozen
  clear hb
  go_wp2_with fail
  exact bodyPost_ret (v := .agg #[.int .u64 (hiN (n * n) : Nat), .int .u64 (loN (n * n) : Nat)]) (by simp [results, Try.results25, go_sem, c0]) rfl ⟨rfl, by go_grown⟩

theorem wsum (a b c : Nat) (h : c = (a + b) % 18446744073709551616) : IntKind.u64.wrap ((a : Int) + b) = c := by rw [M.addN, M.wrapM, h]
theorem wsucc (a c : Nat) (h : c = (a + 1) % 18446744073709551616) : IntKind.u64.wrap ((a : Int) + 1) = c := by rw [show ((a : Int) + 1) = ((a + 1 : Nat) : Int) by omega, M.wrapM, h]

set_option maxHeartbeats 400000 in
theorem radd_a (ah al bh bl H L : Nat) (e1 : IntKind.u64.wrap ((ah : Int) + bh) = H) (e2 : IntKind.u64.wrap ((al : Int) + bl) = L) (c1 : ah ≤ H) (c2 : al ≤ L) (w : World) :
    Calls Try.prog 20 #[.agg #[.int .u64 ah, .int .u64 al], .agg #[.int .u64 bh, .int .u64 bl]] w fun e w' => e = .returned (.tuple #[.agg #[.int .u64 H, .int .u64 L], .bool true]) ∧ Below w.heap.size w w' := by
  go_enter Try.func20, Try.ntmps20
  go_wp2_with fail
  exact bodyPost_ret (v := .tuple #[.agg #[.int .u64 H, .int .u64 L], .bool true]) (by simp [results, Try.results20, go_sem]) rfl ⟨rfl, by go_grown⟩
set_option maxHeartbeats 400000 in
theorem radd_b (ah al bh bl H L K : Nat) (e1 : IntKind.u64.wrap ((ah : Int) + bh) = H) (e2 : IntKind.u64.wrap ((al : Int) + bl) = L) (e3 : IntKind.u64.wrap ((H : Int) + 1) = K) (c1 : ah ≤ H) (c2 : L < al) (c3 : ((K : Int) == 0) = false) (w : World) :
    Calls Try.prog 20 #[.agg #[.int .u64 ah, .int .u64 al], .agg #[.int .u64 bh, .int .u64 bl]] w fun e w' => e = .returned (.tuple #[.agg #[.int .u64 K, .int .u64 L], .bool true]) ∧ Below w.heap.size w w' := by
  go_enter Try.func20, Try.ntmps20
  go_wp2_with fail
  exact bodyPost_ret (v := .tuple #[.agg #[.int .u64 K, .int .u64 L], .bool true]) (by simp [results, Try.results20, go_sem]) rfl ⟨rfl, by go_grown⟩
set_option maxHeartbeats 400000 in
theorem radd_c (ah al bh bl H L : Nat) (e1 : IntKind.u64.wrap ((ah : Int) + bh) = H) (e2 : IntKind.u64.wrap ((al : Int) + bl) = L) (c1 : H < ah) (c2 : al ≤ L) (w : World) :
    Calls Try.prog 20 #[.agg #[.int .u64 ah, .int .u64 al], .agg #[.int .u64 bh, .int .u64 bl]] w fun e w' => e = .returned (.tuple #[.agg #[.int .u64 0, .int .u64 0], .bool false]) ∧ Below w.heap.size w w' := by
  go_enter Try.func20, Try.ntmps20
  go_wp2_with fail
  exact bodyPost_ret (v := .tuple #[.agg #[.int .u64 0, .int .u64 0], .bool false]) (by simp [results, Try.results20, go_sem]) rfl ⟨rfl, by go_grown⟩
set_option maxHeartbeats 400000 in
theorem radd_d (ah al bh bl H L K : Nat) (e1 : IntKind.u64.wrap ((ah : Int) + bh) = H) (e2 : IntKind.u64.wrap ((al : Int) + bl) = L) (e3 : IntKind.u64.wrap ((H : Int) + 1) = K) (c1 : H < ah) (c2 : L < al) (w : World) :
    Calls Try.prog 20 #[.agg #[.int .u64 ah, .int .u64 al], .agg #[.int .u64 bh, .int .u64 bl]] w fun e w' => e = .returned (.tuple #[.agg #[.int .u64 0, .int .u64 0], .bool false]) ∧ Below w.heap.size w w' := by
  go_enter Try.func20, Try.ntmps20
  go_wp2_with fail
  exact bodyPost_ret (v := .tuple #[.agg #[.int .u64 0, .int .u64 0], .bool false]) (by simp [results, Try.results20, go_sem]) rfl ⟨rfl, by go_grown⟩
set_option maxHeartbeats 400000 in
theorem radd_e (ah al bh bl H L : Nat) (e1 : IntKind.u64.wrap ((ah : Int) + bh) = H) (e2 : IntKind.u64.wrap ((al : Int) + bl) = L) (e3 : IntKind.u64.wrap ((H : Int) + 1) = 0) (c1 : ah ≤ H) (c2 : L < al) (w : World) :
    Calls Try.prog 20 #[.agg #[.int .u64 ah, .int .u64 al], .agg #[.int .u64 bh, .int .u64 bl]] w fun e w' => e = .returned (.tuple #[.agg #[.int .u64 0, .int .u64 0], .bool false]) ∧ Below w.heap.size w w' := by
  go_enter Try.func20, Try.ntmps20
  go_wp2_with fail
  exact bodyPost_ret (v := .tuple #[.agg #[.int .u64 0, .int .u64 0], .bool false]) (by simp [results, Try.results20, go_sem]) rfl ⟨rfl, by go_grown⟩

theorem radd_yes (ah al bh bl : Nat) (h1 : ah < lim) (h2 : al < lim) (h3 : bh < lim) (h4 : bl < lim) (h : val ah al + val bh bl < lim * lim) (w : World) :
    Calls Try.prog 20 #[.agg #[.int .u64 ah, .int .u64 al], .agg #[.int .u64 bh, .int .u64 bl]] w fun e w' =>
      e = .returned (.tuple #[.agg #[.int .u64 (hiN (val ah al + val bh bl) : Nat), .int .u64 (loN (val ah al + val bh bl) : Nat)], .bool true]) ∧ Below w.heap.size w w' := by
  rw [lim_eq] at *
  by_cases hc : al + bl < 18446744073709551616
  · exact radd_a ah al bh bl _ _ (wsum _ _ _ (by unfold hiN val at *; omega)) (wsum _ _ _ (by unfold loN val at *; omega)) (by unfold hiN val at *; omega) (by unfold loN val at *; omega) w
  · exact radd_b ah al bh bl (ah + bh) _ _ (wsum _ _ _ (by unfold val at *; omega)) (wsum _ _ _ (by unfold loN val at *; omega)) (wsucc _ _ (by unfold hiN val at *; omega)) (by omega) (by unfold loN val at *; omega) (by simp; unfold hiN val at *; omega) w
theorem radd_no (ah al bh bl : Nat) (h1 : ah < lim) (h2 : al < lim) (h3 : bh < lim) (h4 : bl < lim) (h : ¬ val ah al + val bh bl < lim * lim) (w : World) :
    Calls Try.prog 20 #[.agg #[.int .u64 ah, .int .u64 al], .agg #[.int .u64 bh, .int .u64 bl]] w fun e w' =>
      e = .returned (.tuple #[.agg #[.int .u64 0, .int .u64 0], .bool false]) ∧ Below w.heap.size w w' := by
  rw [lim_eq] at *
  by_cases hc : al + bl < 18446744073709551616
  · exact radd_c ah al bh bl _ _ (wsum _ _ _ rfl) (wsum _ _ _ rfl) (by unfold val at *; omega) (by omega) w
  · by_cases hh : ah + bh < 18446744073709551616
    · exact radd_e ah al bh bl (ah + bh) _ (wsum _ _ _ (by omega)) (wsum _ _ _ rfl) (by rw [wsucc (ah + bh) 0 (by unfold val at *; omega)]; rfl) (by omega) (by omega) w
    · exact radd_d ah al bh bl _ _ _ (wsum _ _ _ rfl) (wsum _ _ _ rfl) (wsucc _ _ rfl) (by omega) (by omega) w

set_option maxHeartbeats 400000 in
theorem rcmp_lt (ah al bh bl : Nat) (h : ah < bh ∨ ah = bh ∧ al < bl) (w : World) :
    Calls Try.prog 27 #[.agg #[.int .u64 ah, .int .u64 al], .agg #[.int .u64 bh, .int .u64 bl]] w fun e w' => e = .returned (.int .i64 (-1)) ∧ Below w.heap.size w w' := by
  rcases h with h | ⟨rfl, h⟩
  · have t1 : ((ah : Int) == bh) = false := by simp; omega
    go_enter Try.func27, Try.ntmps27
    go_wp2
    go_ret
    exact ⟨rfl, by go_grown⟩
  · have t1 : ((al : Int) == bl) = false := by simp; omega
    go_enter Try.func27, Try.ntmps27
    go_wp2
    go_ret
    exact ⟨rfl, by go_grown⟩
set_option maxHeartbeats 400000 in
theorem rcmp_eq (ah al : Nat) (w : World) :
    Calls Try.prog 27 #[.agg #[.int .u64 ah, .int .u64 al], .agg #[.int .u64 ah, .int .u64 al]] w fun e w' => e = .returned (.int .i64 0) ∧ Below w.heap.size w w' := by
  go_enter Try.func27, Try.ntmps27
  go_wp2
  go_ret
  exact ⟨rfl, by go_grown⟩
set_option maxHeartbeats 400000 in
theorem rcmp_gt (ah al bh bl : Nat) (h : bh < ah ∨ ah = bh ∧ bl < al) (w : World) :
    Calls Try.prog 27 #[.agg #[.int .u64 ah, .int .u64 al], .agg #[.int .u64 bh, .int .u64 bl]] w fun e w' => e = .returned (.int .i64 1) ∧ Below w.heap.size w w' := by
  rcases h with h | ⟨rfl, h⟩
  · have t1 : ((ah : Int) == bh) = false := by simp; omega
    go_enter Try.func27, Try.ntmps27
    go_wp2
    go_ret
    exact ⟨rfl, by go_grown⟩
  · have t1 : ((al : Int) == bl) = false := by simp; omega
    go_enter Try.func27, Try.ntmps27
    go_wp2
    go_ret
    exact ⟨rfl, by go_grown⟩
theorem rcmp (ah al bh bl : Nat) (h2 : al < lim) (h4 : bl < lim) (w : World) :
    Calls Try.prog 27 #[.agg #[.int .u64 ah, .int .u64 al], .agg #[.int .u64 bh, .int .u64 bl]] w fun e w' => e = .returned (.int .i64 (cmpN (val ah al) (val bh bl))) ∧ Below w.heap.size w w' := by
  rw [lim_eq] at *
  rcases Nat.lt_trichotomy (val ah al) (val bh bl) with h | h | h
  · rw [cmp_lt h]; exact rcmp_lt _ _ _ _ (by unfold val at h; omega) w
  · rw [cmp_eq h]
    obtain ⟨rfl, rfl⟩ : ah = bh ∧ al = bl := by unfold val at h; omega
    exact rcmp_eq _ _ w
  · rw [cmp_gt h]; exact rcmp_gt _ _ _ _ (by unfold val at h; omega) w
end Go.Proofs.Ytgbkanbahclnhaa
