/- Walks: the class of a box in a disc. Walks: package wide: Mul, Sq, Abs, Cmp. Walks: a point in a stroke. -/
import Derived.Laws.Bits64b
import Derived.Laws.BitsAllLaws
import Derived.Lib.Mul64
import Derived.Lib.QuietBelow
import Derived.Test.YtfajckkbinbpiaaGreatDoorJ01
import Derived.Test.YtfajckkbinbpiaaGreatDoorJ16
namespace Go.Proofs.YtfajckkbinbpiaaGreatDoor
set_option maxRecDepth 100000
set_option maxHeartbeats 32000000
set_option linter.unusedVariables false
set_option linter.unusedSimpArgs false
open Go.RowKit
theorem near2_range {a b c d x y : Int} (a_0 : -536870912 ≤ a) (a_1 : a ≤ 536870912) (b_0 : -536870912 ≤ b) (b_1 : b ≤ 536870912) (c_0 : -536870912 ≤ c) (c_1 : c ≤ 536870912) (d_0 : -536870912 ≤ d) (d_1 : d ≤ 536870912) (x_0 : -536870912 ≤ x) (x_1 : x ≤ 536870912) (y_0 : -536870912 ≤ y) (y_1 : y ≤ 536870912) : 0 ≤ Geo.near2 a b c d x y ∧ Geo.near2 a b c d x y ≤ 2305843009213693952 := by
  have r1 := gap_range x_0 x_1 a_0 a_1 c_0 c_1
  have r2 := gap_range y_0 y_1 b_0 b_1 d_0 d_1
  have := sq_range r1.1 r1.2
  have := sq_range r2.1 r2.2
  unfold Geo.near2; omega
theorem most2_range {a b c d x y : Int} (a_0 : -536870912 ≤ a) (a_1 : a ≤ 536870912) (b_0 : -536870912 ≤ b) (b_1 : b ≤ 536870912) (c_0 : -536870912 ≤ c) (c_1 : c ≤ 536870912) (d_0 : -536870912 ≤ d) (d_1 : d ≤ 536870912) (x_0 : -536870912 ≤ x) (x_1 : x ≤ 536870912) (y_0 : -536870912 ≤ y) (y_1 : y ≤ 536870912) (ac : a ≤ c) (bd : b ≤ d) : 0 ≤ Geo.most2 a b c d x y ∧ Geo.most2 a b c d x y ≤ 2305843009213693952 := by
  have r1 := far_range x_0 x_1 a_0 a_1 c_0 c_1 ac
  have r2 := far_range y_0 y_1 b_0 b_1 d_0 d_1 bd
  have := sq_range r1.1 r1.2
  have := sq_range r2.1 r2.2
  unfold Geo.most2; omega
theorem discsquare_c (r : Int) (w : World) (r_0 : 1 ≤ r) (r_1 : r ≤ 536870912) :
    Calls Tryz.prog 283 #[.int .i64 r] w fun e w' => e = .returned (.int .i64 (r * r)) ∧ w = w' := by
  have hr := sq_range (z := r) (by omega) (by omega)
  obtain ⟨R, eR⟩ : ∃ R, r * r = R := ⟨_, rfl⟩
  rw [eR] at hr ⊢
  have sR : IntKind.i64.wrap (r * r) = R := by rw [eR]; exact IntWalk.i64_in _ (by omega)
  clear eR hr
  have hm : min r 2147483648 = r := by omega
  go_enter Tryz.func283, Tryz.ntmps283
  go_wp2
  go_ret
  exact ⟨rfl, rfl⟩
theorem linesquare_c (r : Int) (w : World) (r_0 : 1 ≤ r) (r_1 : r ≤ 536870912) :
    Calls Tryz.prog 289 #[.int .i64 r] w fun e w' => e = .returned (.int .i64 (r * r)) ∧ w = w' := by
  have hr := sq_range (z := r) (by omega) (by omega)
  obtain ⟨R, eR⟩ : ∃ R, r * r = R := ⟨_, rfl⟩
  rw [eR] at hr ⊢
  have sR : IntKind.i64.wrap (r * r) = R := by rw [eR]; exact IntWalk.i64_in _ (by omega)
  clear eR hr
  have hm : min r 2147483648 = r := by omega
  go_enter Tryz.func289, Tryz.ntmps289
  go_wp2
  go_ret
  exact ⟨rfl, rfl⟩
theorem discClass_c (a b c d x y r : Int) (w : World) (a_0 : -536870912 ≤ a) (a_1 : a ≤ 536870912) (b_0 : -536870912 ≤ b) (b_1 : b ≤ 536870912) (c_0 : -536870912 ≤ c) (c_1 : c ≤ 536870912) (d_0 : -536870912 ≤ d) (d_1 : d ≤ 536870912) (x_0 : -536870912 ≤ x) (x_1 : x ≤ 536870912) (y_0 : -536870912 ≤ y) (y_1 : y ≤ 536870912) (ac : a ≤ c) (bd : b ≤ d) (r_0 : 1 ≤ r) (r_1 : r ≤ 536870912) :
    Calls Tryz.prog 246 #[.agg #[.int .i64 a, .int .i64 b, .int .i64 c, .int .i64 d], .agg #[.int .i64 x, .int .i64 y], .int .i64 r] w fun e w' => e = .returned (.int .i64 (Geo.discC ⟨a, b, c, d⟩ x y r)) ∧ Below w.heap.size w w' := by
  have n1 := fun w => bnear_c a b c d x y w a_0 a_1 b_0 b_1 c_0 c_1 d_0 d_1 x_0 x_1 y_0 y_1
  have n2 := fun w => bmost_c a b c d x y w a_0 a_1 b_0 b_1 c_0 c_1 d_0 d_1 x_0 x_1 y_0 y_1 ac bd
  have n3 := fun w => discsquare_c r w r_0 r_1
  have n4 := fun w => has_corner a b c d w ac bd
  have N1 := near2_range a_0 a_1 b_0 b_1 c_0 c_1 d_0 d_1 x_0 x_1 y_0 y_1
  have N2 := most2_range a_0 a_1 b_0 b_1 c_0 c_1 d_0 d_1 x_0 x_1 y_0 y_1 ac bd
  have N3 := sq_range (z := r) (by omega) (by omega)
  obtain ⟨K, eK⟩ : ∃ K, Geo.discC ⟨a, b, c, d⟩ x y r = K := ⟨_, rfl⟩
  rw [eK]
  unfold Geo.discC at eK
  simp only [] at eK
  obtain ⟨N, eN⟩ : ∃ N, Geo.near2 a b c d x y = N := ⟨_, rfl⟩
  obtain ⟨M, eM⟩ : ∃ N, Geo.most2 a b c d x y = N := ⟨_, rfl⟩
  obtain ⟨R, eR⟩ : ∃ N, r * r = N := ⟨_, rfl⟩
  rw [eN] at n1 N1 eK
  rw [eM] at n2 N2 eK
  rw [eR] at n3 N3 eK
  obtain ⟨N10, N11⟩ := N1
  obtain ⟨N20, N21⟩ := N2
  obtain ⟨N30, N31⟩ := N3
  clear eN eM eR
  have C1 := Lib.hid n1
  have C2 := Lib.hid n2
  have C3 := Lib.hid n3
  have C4 := Lib.hid n4
  clear n1 n2 n3 n4
  rcases Int.lt_or_le R N with h | h
  · rw [if_pos h] at eK
    subst eK
    go_enter Tryz.func246, Tryz.ntmps246
    go_wp2_with fail
    refine (C4.out _).mono ?_
    rintro e w1 ⟨rfl, hb⟩
    have hB1 : Below w.heap.size w w1 := Below.trans (by exact blw) (hb.mono (by first | omega | (simp; done) | (simp; omega)))
    have k1_0 : Blk w1 (w.heap.size) 70 #[.int .i64 a, .int .i64 b, .int .i64 c, .int .i64 d] := Blk.below (by exact bkw) hb (by first | omega | (simp; done) | (simp; omega))
    have k1_1 : Blk w1 (w.heap.size + 1) 58 #[.int .i64 x, .int .i64 y] := Blk.below (by exact bkw) hb (by first | omega | (simp; done) | (simp; omega))
    have c1_0 := k1_0.cell
    have f1_0 := k1_0.frozen
    have l1_0 := k1_0.lt
    have c1_1 := k1_1.cell
    have f1_1 := k1_1.frozen
    have l1_1 := k1_1.lt
    have l1 := hB1.size
    clear hb
    go_wp2_with fail
    refine (C1.out _).mono ?_
    rintro e w2 ⟨rfl, hb⟩
    have hB2 : Below w.heap.size w w2 := Below.trans (by exact blw) (hb.mono (by first | omega | (simp; done) | (simp; omega)))
    have k2_0 : Blk w2 (w.heap.size) 70 #[.int .i64 a, .int .i64 b, .int .i64 c, .int .i64 d] := Blk.below (by exact bkw) hb (by first | omega | (simp; done) | (simp; omega))
    have k2_1 : Blk w2 (w.heap.size + 1) 58 #[.int .i64 x, .int .i64 y] := Blk.below (by exact bkw) hb (by first | omega | (simp; done) | (simp; omega))
    have c2_0 := k2_0.cell
    have f2_0 := k2_0.frozen
    have l2_0 := k2_0.lt
    have c2_1 := k2_1.cell
    have f2_1 := k2_1.frozen
    have l2_1 := k2_1.lt
    have l2 := hB2.size
    clear hb k1_0 c1_0 f1_0 l1_0 k1_1 c1_1 f1_1 l1_1
    go_wp2_with fail
    refine (C3.out _).mono ?_
    rintro e w' ⟨rfl, rfl⟩
    go_wp2_with fail
    go_ret
    exact ⟨rfl, hB2⟩
  · rw [if_neg (by omega)] at eK
    rcases Int.lt_or_le R M with h2 | h2
    · rw [if_neg (by omega)] at eK
      subst eK
      go_enter Tryz.func246, Tryz.ntmps246
      go_wp2_with fail
      refine (C4.out _).mono ?_
      rintro e w1 ⟨rfl, hb⟩
      have hB1 : Below w.heap.size w w1 := Below.trans (by exact blw) (hb.mono (by first | omega | (simp; done) | (simp; omega)))
      have k1_0 : Blk w1 (w.heap.size) 70 #[.int .i64 a, .int .i64 b, .int .i64 c, .int .i64 d] := Blk.below (by exact bkw) hb (by first | omega | (simp; done) | (simp; omega))
      have k1_1 : Blk w1 (w.heap.size + 1) 58 #[.int .i64 x, .int .i64 y] := Blk.below (by exact bkw) hb (by first | omega | (simp; done) | (simp; omega))
      have c1_0 := k1_0.cell
      have f1_0 := k1_0.frozen
      have l1_0 := k1_0.lt
      have c1_1 := k1_1.cell
      have f1_1 := k1_1.frozen
      have l1_1 := k1_1.lt
      have l1 := hB1.size
      clear hb
      go_wp2_with fail
      refine (C1.out _).mono ?_
      rintro e w2 ⟨rfl, hb⟩
      have hB2 : Below w.heap.size w w2 := Below.trans (by exact blw) (hb.mono (by first | omega | (simp; done) | (simp; omega)))
      have k2_0 : Blk w2 (w.heap.size) 70 #[.int .i64 a, .int .i64 b, .int .i64 c, .int .i64 d] := Blk.below (by exact bkw) hb (by first | omega | (simp; done) | (simp; omega))
      have k2_1 : Blk w2 (w.heap.size + 1) 58 #[.int .i64 x, .int .i64 y] := Blk.below (by exact bkw) hb (by first | omega | (simp; done) | (simp; omega))
      have c2_0 := k2_0.cell
      have f2_0 := k2_0.frozen
      have l2_0 := k2_0.lt
      have c2_1 := k2_1.cell
      have f2_1 := k2_1.frozen
      have l2_1 := k2_1.lt
      have l2 := hB2.size
      clear hb k1_0 c1_0 f1_0 l1_0 k1_1 c1_1 f1_1 l1_1
      go_wp2_with fail
      refine (C3.out _).mono ?_
      rintro e w' ⟨rfl, rfl⟩
      go_wp2_with fail
      refine (C2.out _).mono ?_
      rintro e w3 ⟨rfl, hb⟩
      have hB3 : Below w.heap.size w w3 := Below.trans (by exact blw) (hb.mono (by first | omega | (simp; done) | (simp; omega)))
      have k3_0 : Blk w3 (w.heap.size) 70 #[.int .i64 a, .int .i64 b, .int .i64 c, .int .i64 d] := Blk.below (by exact bkw) hb (by first | omega | (simp; done) | (simp; omega))
      have k3_1 : Blk w3 (w.heap.size + 1) 58 #[.int .i64 x, .int .i64 y] := Blk.below (by exact bkw) hb (by first | omega | (simp; done) | (simp; omega))
      have c3_0 := k3_0.cell
      have f3_0 := k3_0.frozen
      have l3_0 := k3_0.lt
      have c3_1 := k3_1.cell
      have f3_1 := k3_1.frozen
      have l3_1 := k3_1.lt
      have l3 := hB3.size
      clear hb k2_0 c2_0 f2_0 l2_0 k2_1 c2_1 f2_1 l2_1
      go_wp2_with fail
      refine (C3.out _).mono ?_
      rintro e w' ⟨rfl, rfl⟩
      go_wp2_with fail
      go_ret
      exact ⟨rfl, hB3⟩
    · rw [if_pos h2] at eK
      subst eK
      go_enter Tryz.func246, Tryz.ntmps246
      go_wp2_with fail
      refine (C4.out _).mono ?_
      rintro e w1 ⟨rfl, hb⟩
      have hB1 : Below w.heap.size w w1 := Below.trans (by exact blw) (hb.mono (by first | omega | (simp; done) | (simp; omega)))
      have k1_0 : Blk w1 (w.heap.size) 70 #[.int .i64 a, .int .i64 b, .int .i64 c, .int .i64 d] := Blk.below (by exact bkw) hb (by first | omega | (simp; done) | (simp; omega))
      have k1_1 : Blk w1 (w.heap.size + 1) 58 #[.int .i64 x, .int .i64 y] := Blk.below (by exact bkw) hb (by first | omega | (simp; done) | (simp; omega))
      have c1_0 := k1_0.cell
      have f1_0 := k1_0.frozen
      have l1_0 := k1_0.lt
      have c1_1 := k1_1.cell
      have f1_1 := k1_1.frozen
      have l1_1 := k1_1.lt
      have l1 := hB1.size
      clear hb
      go_wp2_with fail
      refine (C1.out _).mono ?_
      rintro e w2 ⟨rfl, hb⟩
      have hB2 : Below w.heap.size w w2 := Below.trans (by exact blw) (hb.mono (by first | omega | (simp; done) | (simp; omega)))
      have k2_0 : Blk w2 (w.heap.size) 70 #[.int .i64 a, .int .i64 b, .int .i64 c, .int .i64 d] := Blk.below (by exact bkw) hb (by first | omega | (simp; done) | (simp; omega))
      have k2_1 : Blk w2 (w.heap.size + 1) 58 #[.int .i64 x, .int .i64 y] := Blk.below (by exact bkw) hb (by first | omega | (simp; done) | (simp; omega))
      have c2_0 := k2_0.cell
      have f2_0 := k2_0.frozen
      have l2_0 := k2_0.lt
      have c2_1 := k2_1.cell
      have f2_1 := k2_1.frozen
      have l2_1 := k2_1.lt
      have l2 := hB2.size
      clear hb k1_0 c1_0 f1_0 l1_0 k1_1 c1_1 f1_1 l1_1
      go_wp2_with fail
      refine (C3.out _).mono ?_
      rintro e w' ⟨rfl, rfl⟩
      go_wp2_with fail
      refine (C2.out _).mono ?_
      rintro e w3 ⟨rfl, hb⟩
      have hB3 : Below w.heap.size w w3 := Below.trans (by exact blw) (hb.mono (by first | omega | (simp; done) | (simp; omega)))
      have k3_0 : Blk w3 (w.heap.size) 70 #[.int .i64 a, .int .i64 b, .int .i64 c, .int .i64 d] := Blk.below (by exact bkw) hb (by first | omega | (simp; done) | (simp; omega))
      have k3_1 : Blk w3 (w.heap.size + 1) 58 #[.int .i64 x, .int .i64 y] := Blk.below (by exact bkw) hb (by first | omega | (simp; done) | (simp; omega))
      have c3_0 := k3_0.cell
      have f3_0 := k3_0.frozen
      have l3_0 := k3_0.lt
      have c3_1 := k3_1.cell
      have f3_1 := k3_1.frozen
      have l3_1 := k3_1.lt
      have l3 := hB3.size
      clear hb k2_0 c2_0 f2_0 l2_0 k2_1 c2_1 f2_1 l2_1
      go_wp2_with fail
      refine (C3.out _).mono ?_
      rintro e w' ⟨rfl, rfl⟩
      go_wp2_with fail
      go_ret
      exact ⟨rfl, hB3⟩
end Go.Proofs.YtfajckkbinbpiaaGreatDoor
namespace Go.Proofs.YtfajckkbinbpiaaGreatDoor
set_option maxRecDepth 100000
set_option maxHeartbeats 32000000
set_option linter.unusedVariables false
set_option linter.unusedSimpArgs false
open Go.RowKit Go.Sort
def hiN (n : Nat) : Nat := n / 18446744073709551616
def loN (n : Nat) : Nat := n % 18446744073709551616
def val (h l : Nat) : Nat := h * 18446744073709551616 + l
def lim : Nat := 18446744073709551616
theorem lim_eq : lim = 18446744073709551616 := rfl
theorem val_hl (n : Nat) : val (hiN n) (loN n) = n := by unfold val hiN loN; omega
theorem lo_lt (n : Nat) : loN n < lim := by rw [lim_eq]; unfold loN; omega
namespace M
theorem maskN (a : Nat) (ha : a < 18446744073709551616) : bits .and .u64 (a : Int) 4294967295 = ((a % 4294967296 : Nat) : Int) := by
  have h := bits_and_u64_nat a 4294967295 ha (by omega)
  have e : a &&& 4294967295 = a % 4294967296 := Nat.and_two_pow_sub_one_eq_mod a 32
  rw [e] at h
  exact h
theorem divN (a : Nat) : (a : Int) / 4294967296 = ((a / 4294967296 : Nat) : Int) := by omega
theorem mulN (a b : Nat) : (a : Int) * (b : Int) = ((a * b : Nat) : Int) := (Int.natCast_mul a b).symm
theorem addN (a b : Nat) : (a : Int) + (b : Int) = ((a + b : Nat) : Int) := (Int.natCast_add a b).symm
theorem wrapN (a : Nat) (ha : a < 18446744073709551616) : IntKind.u64.wrap (a : Int) = (a : Int) := by rw [IntKind.wrap_u64]; omega
theorem wrapM (a : Nat) : IntKind.u64.wrap (a : Int) = ((a % 18446744073709551616 : Nat) : Int) := by rw [IntKind.wrap_u64]; omega
end M
theorem mul64 (x y : Nat) (hx0 : x < lim) (hy0 : y < lim) (w : World) :
    Calls Tryz.prog 358 #[.int .u64 x, .int .u64 y] w fun e w' => e = .returned (.tuple #[.int .u64 (hiN (x * y) : Nat), .int .u64 (loN (x * y) : Nat)]) ∧ w = w' := by
  have hx : x < 18446744073709551616 := hx0
  have hy : y < 18446744073709551616 := hy0
  clear hx0 hy0
  obtain ⟨bd, bt, bw, hhi⟩ := Lib.mul64_hi x y hx hy
  have ba := Lib.half_mul_le (a := x / 4294967296) (b := y / 4294967296) (by omega) (by omega)
  have bb := Lib.half_mul_le (a := x / 4294967296) (b := y % 4294967296) (by omega) (by omega)
  have bc := Lib.half_mul_le (a := x % 4294967296) (b := y / 4294967296) (by omega) (by omega)
  have ba' : x / 4294967296 * (y / 4294967296) < 18446744073709551616 := by omega
  have bb' : x / 4294967296 * (y % 4294967296) < 18446744073709551616 := by omega
  have bc' : x % 4294967296 * (y / 4294967296) < 18446744073709551616 := by omega
  have bh1 : x / 4294967296 * (y / 4294967296) + (x / 4294967296 * (y % 4294967296) + x % 4294967296 * (y % 4294967296) / 4294967296) / 4294967296 < 18446744073709551616 := by omega
  have bh : x / 4294967296 * (y / 4294967296) + (x / 4294967296 * (y % 4294967296) + x % 4294967296 * (y % 4294967296) / 4294967296) / 4294967296 + ((x / 4294967296 * (y % 4294967296) + x % 4294967296 * (y % 4294967296) / 4294967296) % 4294967296 + x % 4294967296 * (y / 4294967296)) / 4294967296 < 18446744073709551616 := by omega
  go_enter Tryz.func358, Tryz.ntmps358
  go_wp2
  simp only [M.maskN x hx, M.maskN y hy, M.divN, M.mulN, M.addN, M.wrapN _ bd, M.wrapN _ bb', M.wrapN _ bt, M.maskN _ bt, M.wrapN _ bc', M.wrapN _ bw, M.wrapN _ ba', M.wrapN _ bh1, M.wrapN _ bh, M.wrapM (x * y)]
  rw [hhi]
  go_ret2
  exact ⟨rfl, rfl⟩
theorem wmul (x y : Nat) (hx : x < lim) (hy : y < lim) (w : World) :
    Calls Tryz.prog 342 #[.int .u64 x, .int .u64 y] w fun e w' => e = .returned (.agg #[.int .u64 (hiN (x * y) : Nat), .int .u64 (loN (x * y) : Nat)]) ∧ Below w.heap.size w w' := by
  go_enter Tryz.func342, Tryz.ntmps342
  go_wp2_with (go_at_call 358; refine (mul64 _ _ hx hy _).mono ?_; rintro e w1 ⟨rfl, rfl⟩)
  exact bodyPost_ret (v := .agg #[.int .u64 (hiN (x * y) : Nat), .int .u64 (loN (x * y) : Nat)]) (by simp [results, Tryz.results342, go_sem]) rfl ⟨rfl, by go_grown⟩
theorem isnan (x : Int) (w : World) : Calls Tryz.prog 367 #[.int .u64 x] w fun e w' => e = .returned (.bool false) ∧ w = w' := by
  go_enter Tryz.func367, Tryz.ntmps367
  go_wp2
  go_ret
  exact ⟨by simp, rfl⟩
def cmpN (a b : Nat) : Int := if a < b then -1 else if a = b then 0 else 1
theorem cmp_lt {a b : Nat} (h : a < b) : cmpN a b = -1 := if_pos h
theorem cmp_gt {a b : Nat} (h : b < a) : cmpN a b = 1 := by unfold cmpN; rw [if_neg (by omega), if_neg (by omega)]
theorem cmp_eq {a b : Nat} (h : a = b) : cmpN a b = 0 := by unfold cmpN; rw [if_neg (by omega), if_pos h]
theorem compare (a b : Nat) (w : World) : Calls Tryz.prog 357 #[.int .u64 a, .int .u64 b] w fun e w' => e = .returned (.int .i64 (cmpN a b)) ∧ w = w' := by
  rcases Nat.lt_trichotomy a b with h | h | h
  · rw [cmp_lt h]
    go_enter Tryz.func357, Tryz.ntmps357
    go_wp2_with (go_at_call 367; refine (isnan _ _).mono ?_; rintro e w1 ⟨rfl, rfl⟩)
    go_ret
    exact ⟨rfl, rfl⟩
  · rw [cmp_eq h]
    subst h
    go_enter Tryz.func357, Tryz.ntmps357
    go_wp2_with (go_at_call 367; refine (isnan _ _).mono ?_; rintro e w1 ⟨rfl, rfl⟩)
    go_ret
    exact ⟨rfl, rfl⟩
  · rw [cmp_gt h]
    go_enter Tryz.func357, Tryz.ntmps357
    go_wp2_with (go_at_call 367; refine (isnan _ _).mono ?_; rintro e w1 ⟨rfl, rfl⟩)
    go_ret
    exact ⟨rfl, rfl⟩
theorem cmp_val_ne (ah al bh bl : Nat) (h2 : al < lim) (h4 : bl < lim) (h : ah ≠ bh) : cmpN (val ah al) (val bh bl) = cmpN ah bh := by
  rw [lim_eq] at *
  rcases Nat.lt_or_gt_of_ne h with h | h
  · rw [cmp_lt h, cmp_lt (by unfold val; omega)]
  · rw [cmp_gt h, cmp_gt (by unfold val; omega)]
theorem cmp_val_eq (ah al bl : Nat) : cmpN (val ah al) (val ah bl) = cmpN al bl := by
  rcases Nat.lt_trichotomy al bl with h | h | h
  · rw [cmp_lt h, cmp_lt (by unfold val; omega)]
  · rw [cmp_eq h, cmp_eq (by unfold val; omega)]
  · rw [cmp_gt h, cmp_gt (by unfold val; omega)]
theorem wcmp (ah al bh bl : Nat) (h2 : al < lim) (h4 : bl < lim) (w : World) :
    Calls Tryz.prog 341 #[.agg #[.int .u64 ah, .int .u64 al], .agg #[.int .u64 bh, .int .u64 bl]] w fun e w' => e = .returned (.int .i64 (cmpN (val ah al) (val bh bl))) ∧ Below w.heap.size w w' := by
  by_cases h : ah = bh
  · subst h
    rw [cmp_val_eq]
    go_enter Tryz.func341, Tryz.ntmps341
    go_wp2_with (go_at_call 357; refine (compare _ _ _).mono ?_; rintro e w1 ⟨rfl, rfl⟩)
    go_ret
    exact ⟨rfl, by go_grown⟩
  · rw [cmp_val_ne _ _ _ _ h2 h4 h]
    have hb : ((ah : Int) != bh) = true := by simp; omega
    clear h
    go_enter Tryz.func341, Tryz.ntmps341
    go_wp2_with (go_at_call 357; refine (compare _ _ _).mono ?_; rintro e w1 ⟨rfl, rfl⟩)
    go_ret
    exact ⟨rfl, by go_grown⟩
theorem ret_int {k : IntKind} {a b : Int} (h : a = b) : Ending.returned (.int k a) = .returned (.int k b) := by rw [h]
theorem wabs (v : Int) (h0 : -9223372036854775808 ≤ v) (h1 : v ≤ 9223372036854775807) (w : World) :
    Calls Tryz.prog 356 #[.int .i64 v] w fun e w' => e = .returned (.int .u64 (v.natAbs : Nat)) ∧ w = w' := by
  by_cases h : v < 0
  · go_enter Tryz.func356, Tryz.ntmps356
    go_wp2
    go_ret
    refine ⟨?_, rfl⟩
    simp only [IntKind.wrap_u64]
    exact ret_int (by omega)
  · go_enter Tryz.func356, Tryz.ntmps356
    go_wp2
    go_ret
    exact ⟨ret_int (by omega), rfl⟩
theorem natAbs_lt (v : Int) (h0 : -9223372036854775808 ≤ v) (h1 : v ≤ 9223372036854775807) : v.natAbs < lim := by rw [lim_eq]; omega
theorem wsq (v : Int) (h0 : -9223372036854775808 ≤ v) (h1 : v ≤ 9223372036854775807) (w : World) :
    Calls Tryz.prog 339 #[.int .i64 v] w fun e w' => e = .returned (.agg #[.int .u64 (hiN (v.natAbs * v.natAbs) : Nat), .int .u64 (loN (v.natAbs * v.natAbs) : Nat)]) ∧ Below w.heap.size w w' := by
  have hl := natAbs_lt v h0 h1
  have ha := fun w => wabs v h0 h1 w
  generalize v.natAbs = n at *
  have HA := Lib.hid ha
  clear ha
  go_enter Tryz.func339, Tryz.ntmps339
  go_wp2_with fail
  refine (HA.out _).mono ?_
  rintro e w1 ⟨rfl, rfl⟩
  go_wp2_with fail
  refine (wmul _ _ hl hl _).mono ?_
  rintro e w1 ⟨rfl, hb⟩
  have hz : w.heap.size < w1.heap.size := by have := hb.size; simp at this; omega
  have hB : Below w.heap.size w w1 := ((Below.refl _ _).alloc (Nat.le_refl _) _).trans (hb.mono (by simp))
  have k0 : Blk w1 w.heap.size 295 #[.int .u64 0, .int .u64 0] := Blk.below (Blk.new _ _ _) hb (by simp)
  have c0 := k0.cell
  have f0 := k0.frozen
  clear hb
  go_wp2_with fail
  exact bodyPost_ret (v := .agg #[.int .u64 (hiN (n * n) : Nat), .int .u64 (loN (n * n) : Nat)]) (by simp [results, Tryz.results339, go_sem, c0]) rfl ⟨rfl, by go_grown⟩
theorem mulc (x y : Nat) (hx : x < lim) (hy : y < lim) {X Y H L : Int} (eX : (x : Int) = X) (eY : (y : Int) = Y) (eH : ((hiN (x * y) : Nat) : Int) = H) (eL : ((loN (x * y) : Nat) : Int) = L) (w : World) :
    Calls Tryz.prog 342 #[.int .u64 X, .int .u64 Y] w fun e w' => e = .returned (.agg #[.int .u64 H, .int .u64 L]) ∧ Below w.heap.size w w' := by
  subst eX eY eH eL; exact wmul x y hx hy w
theorem mulr (x y : Nat) (hx : x < lim) (hy : y < lim) {X Y H L : Int} (eX : (x : Int) = X) (eY : (y : Int) = Y) (eH : ((hiN (x * y) : Nat) : Int) = H) (eL : ((loN (x * y) : Nat) : Int) = L) (w : World) (d : Nat) (os : Array Obj) :
    Calls Tryz.prog 342 #[.int .u64 X, .int .u64 Y] (grow (redrawn w d) os) fun e w'' => e = .returned (.agg #[.int .u64 H, .int .u64 L]) ∧ ∃ p : Regrown, w'' = grow (redrawn w p.d) p.os := Calls.regrown_of (mulc x y hx hy eX eY eH eL _)
theorem cmpc (n m : Nat) {A B C D H : Int} (eA : ((hiN n : Nat) : Int) = A) (eB : ((loN n : Nat) : Int) = B) (eC : ((hiN m : Nat) : Int) = C) (eD : ((loN m : Nat) : Int) = D) (eH : cmpN n m = H) (w : World) :
    Calls Tryz.prog 341 #[.agg #[.int .u64 A, .int .u64 B], .agg #[.int .u64 C, .int .u64 D]] w fun e w' => e = .returned (.int .i64 H) ∧ Below w.heap.size w w' := by
  subst eA eB eC eD eH
  have := wcmp (hiN n) (loN n) (hiN m) (loN m) (lo_lt _) (lo_lt _) w
  rw [val_hl, val_hl] at this
  exact this
theorem cmpr (n m : Nat) {A B C D H : Int} (eA : ((hiN n : Nat) : Int) = A) (eB : ((loN n : Nat) : Int) = B) (eC : ((hiN m : Nat) : Int) = C) (eD : ((loN m : Nat) : Int) = D) (eH : cmpN n m = H) (w : World) (d : Nat) (os : Array Obj) :
    Calls Tryz.prog 341 #[.agg #[.int .u64 A, .int .u64 B], .agg #[.int .u64 C, .int .u64 D]] (grow (redrawn w d) os) fun e w'' => e = .returned (.int .i64 H) ∧ ∃ p : Regrown, w'' = grow (redrawn w p.d) p.os := Calls.regrown_of (cmpc n m eA eB eC eD eH _)
theorem sqc (v : Int) (h0 : -9223372036854775808 ≤ v) (h1 : v ≤ 9223372036854775807) {H L : Int} (eH : ((hiN (v.natAbs * v.natAbs) : Nat) : Int) = H) (eL : ((loN (v.natAbs * v.natAbs) : Nat) : Int) = L) (w : World) :
    Calls Tryz.prog 339 #[.int .i64 v] w fun e w' => e = .returned (.agg #[.int .u64 H, .int .u64 L]) ∧ Below w.heap.size w w' := by
  subst eH eL; exact wsq v h0 h1 w
end Go.Proofs.YtfajckkbinbpiaaGreatDoor
namespace Go.Proofs.YtfajckkbinbpiaaGreatDoor
set_option maxRecDepth 100000
set_option maxHeartbeats 32000000
set_option linter.unusedVariables false
set_option linter.unusedSimpArgs false
open Go.RowKit
theorem near_pt (px py qx qy : Int) : Geo.near2 qx qy qx qy px py = Geo.dist px py qx qy := by
  have e : ∀ u v : Int, Geo.gap u v v * Geo.gap u v v = (u - v) * (u - v) := by
    intro u v
    unfold Geo.gap
    split
    · grind
    · split
      · rfl
      · have : u - v = 0 := by omega
        rw [this]
  unfold Geo.near2 Geo.dist
  rw [e, e]
theorem cmp_le (n m : Nat) : decide (cmpN n m ≤ 0) = decide (n ≤ m) := by
  rcases Nat.lt_trichotomy n m with h | h | h
  · rw [cmp_lt h]; simp; omega
  · rw [cmp_eq h]; simp; omega
  · rw [cmp_gt h]; simp; omega
theorem sq_le_nat (k R L : Int) (hR : 0 ≤ R) (hL : 0 ≤ L) : decide (k.natAbs * k.natAbs ≤ R.toNat * L.toNat) = decide (k * k ≤ R * L) := by
  have e1 : ((k.natAbs * k.natAbs : Nat) : Int) = k * k := by rw [Int.natCast_mul]; exact Int.natAbs_mul_self' k
  have e2 : ((R.toNat * L.toNat : Nat) : Int) = R * L := by rw [Int.natCast_mul, Int.toNat_of_nonneg hR, Int.toNat_of_nonneg hL]
  rw [decide_eq_decide, ← Int.ofNat_le, e1, e2]
theorem hasL_dec (ax ay cx cy r px py : Int) : decide (Geo.HasL ax ay cx cy r px py) = if Geo.dt ax ay cx cy px py ≤ 0 then decide (Geo.dist px py ax ay ≤ r * r) else if Geo.dist ax ay cx cy ≤ Geo.dt ax ay cx cy px py then decide (Geo.dist px py cx cy ≤ r * r) else decide (Geo.cross ax ay cx cy px py * Geo.cross ax ay cx cy px py ≤ r * r * Geo.dist ax ay cx cy) := by
  by_cases h1 : Geo.dt ax ay cx cy px py ≤ 0
  · rw [if_pos h1, decide_eq_decide]; unfold Geo.HasL; rw [if_pos h1]
  · by_cases h2 : Geo.dist ax ay cx cy ≤ Geo.dt ax ay cx cy px py
    · rw [if_neg h1, if_pos h2, decide_eq_decide]; unfold Geo.HasL; rw [if_neg h1, if_pos h2]
    · rw [if_neg h1, if_neg h2, decide_eq_decide]; unfold Geo.HasL; rw [if_neg h1, if_neg h2]
theorem lapart_c (px py qx qy : Int) (w : World) (px_0 : -536870912 ≤ px) (px_1 : px ≤ 536870912) (py_0 : -536870912 ≤ py) (py_1 : py ≤ 536870912) (qx_0 : -536870912 ≤ qx) (qx_1 : qx ≤ 536870912) (qy_0 : -536870912 ≤ qy) (qy_1 : qy ≤ 536870912) :
    Calls Tryz.prog 338 #[.agg #[.int .i64 px, .int .i64 py], .agg #[.int .i64 qx, .int .i64 qy]] w fun e w' => e = .returned (.int .i64 (Geo.dist px py qx qy)) ∧ Below w.heap.size w w' := by
  rw [← near_pt]
  have n1 := fun w => bnear_c qx qy qx qy px py w qx_0 qx_1 qy_0 qy_1 qx_0 qx_1 qy_0 qy_1 px_0 px_1 py_0 py_1
  obtain ⟨N, eN⟩ : ∃ N, Geo.near2 qx qy qx qy px py = N := ⟨_, rfl⟩
  rw [eN] at n1 ⊢
  clear eN
  have C1 := Lib.hid n1
  clear n1
  go_enter Tryz.func338, Tryz.ntmps338
  go_wp2_with fail
  refine (C1.out _).mono ?_
  rintro e w1 ⟨rfl, hb⟩
  have hB : Below w.heap.size w w1 := Below.trans (by exact blw) (hb.mono (by simp; omega))
  clear hb
  go_wp2_with fail
  go_ret
  exact ⟨rfl, hB⟩
theorem dist_range {px py qx qy : Int} (px_0 : -536870912 ≤ px) (px_1 : px ≤ 536870912) (py_0 : -536870912 ≤ py) (py_1 : py ≤ 536870912) (qx_0 : -536870912 ≤ qx) (qx_1 : qx ≤ 536870912) (qy_0 : -536870912 ≤ qy) (qy_1 : qy ≤ 536870912) : 0 ≤ Geo.dist px py qx qy ∧ Geo.dist px py qx qy ≤ 2305843009213693952 := by
  rw [← near_pt]
  exact near2_range qx_0 qx_1 qy_0 qy_1 qx_0 qx_1 qy_0 qy_1 px_0 px_1 py_0 py_1
theorem lineHas_c (px py ax ay cx cy r : Int) (w : World) (px_0 : -536870912 ≤ px) (px_1 : px ≤ 536870912) (py_0 : -536870912 ≤ py) (py_1 : py ≤ 536870912) (ax_0 : -536870912 ≤ ax) (ax_1 : ax ≤ 536870912) (ay_0 : -536870912 ≤ ay) (ay_1 : ay ≤ 536870912) (cx_0 : -536870912 ≤ cx) (cx_1 : cx ≤ 536870912) (cy_0 : -536870912 ≤ cy) (cy_1 : cy ≤ 536870912) (r_0 : 1 ≤ r) (r_1 : r ≤ 536870912) :
    Calls Tryz.prog 288 #[.agg #[.int .i64 px, .int .i64 py], .agg #[.int .i64 ax, .int .i64 ay], .agg #[.int .i64 cx, .int .i64 cy], .int .i64 r] w fun e w' => e = .returned (.bool (decide (Geo.HasL ax ay cx cy r px py))) ∧ Below w.heap.size w w' := by
  have na := fun w => lapart_c px py ax ay w px_0 px_1 py_0 py_1 ax_0 ax_1 ay_0 ay_1
  have nc := fun w => lapart_c px py cx cy w px_0 px_1 py_0 py_1 cx_0 cx_1 cy_0 cy_1
  have ns := fun w => linesquare_c r w r_0 r_1
  have nk := fun w => cross_c ax ay cx cy px py w ax_0 ax_1 ay_0 ay_1 cx_0 cx_1 cy_0 cy_1 px_0 px_1 py_0 py_1
  have ra := dist_range px_0 px_1 py_0 py_1 ax_0 ax_1 ay_0 ay_1
  have rc := dist_range px_0 px_1 py_0 py_1 cx_0 cx_1 cy_0 cy_1
  have rs := sq_range (z := r) (by omega) (by omega)
  have rk := cross_range ax_0 ax_1 ay_0 ay_1 cx_0 cx_1 cy_0 cy_1 px_0 px_1 py_0 py_1
  obtain ⟨Z, eZ⟩ : ∃ Z, decide (Geo.HasL ax ay cx cy r px py) = Z := ⟨_, rfl⟩
  rw [eZ]
  have e1 : Geo.dt ax ay cx cy px py = (px - ax) * (cx - ax) + (py - ay) * (cy - ay) := by unfold Geo.dt; grind
  have e2 : Geo.dist ax ay cx cy = (cx - ax) * (cx - ax) + (cy - ay) * (cy - ay) := by unfold Geo.dist; grind
  rw [hasL_dec, e1, e2] at eZ
  clear e1 e2
  have u1 := prod_range (u := px - ax) (v := cx - ax) (by omega) (by omega) (by omega) (by omega)
  have u2 := prod_range (u := py - ay) (v := cy - ay) (by omega) (by omega) (by omega) (by omega)
  have s1 := prod_range (u := cx - ax) (v := cx - ax) (by omega) (by omega) (by omega) (by omega)
  have s2 := prod_range (u := cy - ay) (v := cy - ay) (by omega) (by omega) (by omega) (by omega)
  have s3 := Geo.sq_nonneg (cx - ax)
  have s4 := Geo.sq_nonneg (cy - ay)
  obtain ⟨U1, eU1⟩ : ∃ U, (px - ax) * (cx - ax) = U := ⟨_, rfl⟩
  obtain ⟨U2, eU2⟩ : ∃ U, (py - ay) * (cy - ay) = U := ⟨_, rfl⟩
  obtain ⟨S1, eS1⟩ : ∃ U, (cx - ax) * (cx - ax) = U := ⟨_, rfl⟩
  obtain ⟨S2, eS2⟩ : ∃ U, (cy - ay) * (cy - ay) = U := ⟨_, rfl⟩
  obtain ⟨DA, eDA⟩ : ∃ U, Geo.dist px py ax ay = U := ⟨_, rfl⟩
  obtain ⟨DC, eDC⟩ : ∃ U, Geo.dist px py cx cy = U := ⟨_, rfl⟩
  obtain ⟨R, eR⟩ : ∃ U, r * r = U := ⟨_, rfl⟩
  obtain ⟨K, eK⟩ : ∃ U, Geo.cross ax ay cx cy px py = U := ⟨_, rfl⟩
  rw [eU1] at u1 eZ
  rw [eU2] at u2 eZ
  rw [eS1] at s1 s3 eZ
  rw [eS2] at s2 s4 eZ
  rw [eDA] at na ra eZ
  rw [eDC] at nc rc eZ
  rw [eR] at ns rs eZ
  rw [eK] at nk rk eZ
  obtain ⟨u10, u11⟩ := u1
  obtain ⟨u20, u21⟩ := u2
  obtain ⟨s10, s11⟩ := s1
  obtain ⟨s20, s21⟩ := s2
  obtain ⟨ra0, ra1⟩ := ra
  obtain ⟨rc0, rc1⟩ := rc
  obtain ⟨rs0, rs1⟩ := rs
  obtain ⟨rk0, rk1⟩ := rk
  have w1 : IntKind.i64.wrap ((px - ax) * (cx - ax)) = U1 := by rw [eU1]; exact IntWalk.i64_in _ (by omega)
  have w2 : IntKind.i64.wrap ((py - ay) * (cy - ay)) = U2 := by rw [eU2]; exact IntWalk.i64_in _ (by omega)
  have w3 : IntKind.i64.wrap ((cx - ax) * (cx - ax)) = S1 := by rw [eS1]; exact IntWalk.i64_in _ (by omega)
  have w4 : IntKind.i64.wrap ((cy - ay) * (cy - ay)) = S2 := by rw [eS2]; exact IntWalk.i64_in _ (by omega)
  have WX := Lib.hid (And.intro w1 (And.intro w2 (And.intro w3 w4)))
  clear eU1 eU2 eS1 eS2 eDA eDC eR eK w1 w2 w3 w4
  have CA := Lib.hid na
  have CC := Lib.hid nc
  have CS := Lib.hid ns
  have CK := Lib.hid nk
  clear na nc ns nk
  rcases Int.lt_or_le 0 (U1 + U2) with h | h
  · rw [if_neg (by omega)] at eZ
    rcases Int.lt_or_le (U1 + U2) (S1 + S2) with h2 | h2
    · rw [if_neg (by omega)] at eZ
      obtain ⟨n, en⟩ : ∃ n, K.natAbs * K.natAbs = n := ⟨_, rfl⟩
      obtain ⟨m, em⟩ : ∃ m, R.toNat * (S1 + S2).toNat = m := ⟨_, rfl⟩
      have eq : decide (cmpN n m ≤ 0) = Z := by rw [cmp_le, ← en, ← em, sq_le_nat _ _ _ rs0 (by omega)]; exact eZ
      obtain ⟨q, eq'⟩ : ∃ q, cmpN n m = q := ⟨_, rfl⟩
      rw [eq'] at eq
      obtain ⟨H1, eH1⟩ : ∃ H : Int, ((hiN n : Nat) : Int) = H := ⟨_, rfl⟩
      obtain ⟨L1, eL1⟩ : ∃ H : Int, ((loN n : Nat) : Int) = H := ⟨_, rfl⟩
      obtain ⟨H2, eH2⟩ : ∃ H : Int, ((hiN m : Nat) : Int) = H := ⟨_, rfl⟩
      obtain ⟨L2, eL2⟩ : ∃ H : Int, ((loN m : Nat) : Int) = H := ⟨_, rfl⟩
      have cq := fun w => sqc K (by omega) (by omega) (H := H1) (L := L1) (by rw [en]; exact eH1) (by rw [en]; exact eL1) w
      have m1 := fun w d os => mulr R.toNat (S1 + S2).toNat (by rw [lim_eq]; omega) (by rw [lim_eq]; omega) (X := R) (Y := S1 + S2) (H := H2) (L := L2) (by omega) (by omega) (by rw [em]; exact eH2) (by rw [em]; exact eL2) w d os
      have m2 := fun w d os => cmpr n m (A := H1) (B := L1) (C := H2) (D := L2) (H := q) eH1 eL1 eH2 eL2 eq' w d os
      have x1 : IntKind.u64.wrap R = R := by rw [IntKind.wrap_u64]; omega
      have x2 : IntKind.u64.wrap (S1 + S2) = S1 + S2 := by rw [IntKind.wrap_u64]; omega
      have CQ := Lib.hid cq
      have M1 := Lib.hid m1
      have M2 := Lib.hid m2
      have XX := Lib.hid (And.intro x1 x2)
      have EZ := Lib.hid eq
      clear cq m1 m2 x1 x2 eH1 eL1 eH2 eL2 en em eq eq' eZ
      go_enter Tryz.func288, Tryz.ntmps288
      go_wp2_with fail
      refine (CS.out _).mono ?_
      rintro e w' ⟨rfl, rfl⟩
      go_wp2_with fail
      go_quiet (fail)
      obtain ⟨w1, w2, w3, w4⟩ := WX.out
      go_wp2_with fail
      refine (CK.out _).mono ?_
      rintro e w1 ⟨rfl, hb⟩
      have hB1 : Below w.heap.size w w1 := Below.trans (by exact blw) (hb.mono (by first | omega | (simp; done) | (simp; omega)))
      have l1 := hB1.size
      clear hb
      go_wp2_with fail
      refine (CQ.out _).mono ?_
      rintro e w2 ⟨rfl, hb⟩
      have hB2 : Below w.heap.size w w2 := hB1.trans (hb.mono (by omega))
      have l2 := hB2.size
      clear hb
      go_wp2_with fail
      have k0 := cell_regrown (w := w2.alloc (.cells #[.int .u64 H1, .int .u64 L1] 295)) (a := ⟨w2.heap.size, 0, none⟩) (v := .int .u64 H1) (by simp)
      have k1 := cell_regrown (w := w2.alloc (.cells #[.int .u64 H1, .int .u64 L1] 295)) (a := ⟨w2.heap.size, 1, none⟩) (v := .int .u64 L1) (by simp)
      obtain ⟨x1, x2⟩ := XX.out
      refine wp_region_quiet_below (by kernel_rfl) (by kernel_rfl) ?_
      repeat (first | go_big_quiet_step (first | (with_reducible exact M1.out _ _ _) | (with_reducible exact M2.out _ _ _)) | quiet_step (first | (with_reducible exact M1.out _ _ _) | (with_reducible exact M2.out _ _ _)))
      refine wpQuiet_nil ?_
      intro _ hw'
      obtain ⟨⟨dq, osq⟩, hw''⟩ := hw'
      subst hw''
      go_wp2
      go_ret
      exact ⟨congrArg (fun z => Ending.returned (Value.bool z)) EZ.out, (hB2.alloc l2 _).trans ((below_regrown _ dq osq).mono (by simp; omega))⟩
    · rw [if_pos h2] at eZ
      subst eZ
      go_enter Tryz.func288, Tryz.ntmps288
      go_wp2_with fail
      refine (CS.out _).mono ?_
      rintro e w' ⟨rfl, rfl⟩
      go_wp2_with fail
      go_quiet (fail)
      obtain ⟨w1, w2, w3, w4⟩ := WX.out
      go_wp2_with fail
      refine (CC.out _).mono ?_
      rintro e w1 ⟨rfl, hb⟩
      have hB : Below w.heap.size w w1 := Below.trans (by exact blw) (hb.mono (by simp; omega))
      clear hb
      go_wp2_with fail
      go_ret
      exact ⟨rfl, hB⟩
  · rw [if_pos h] at eZ
    subst eZ
    go_enter Tryz.func288, Tryz.ntmps288
    go_wp2_with fail
    refine (CS.out _).mono ?_
    rintro e w' ⟨rfl, rfl⟩
    go_wp2_with fail
    go_quiet (fail)
    obtain ⟨w1, w2, w3, w4⟩ := WX.out
    go_wp2_with fail
    refine (CA.out _).mono ?_
    rintro e w1 ⟨rfl, hb⟩
    have hB : Below w.heap.size w w1 := Below.trans (by exact blw) (hb.mono (by simp; omega))
    clear hb
    go_wp2_with fail
    go_ret
    exact ⟨rfl, hB⟩
end Go.Proofs.YtfajckkbinbpiaaGreatDoor
