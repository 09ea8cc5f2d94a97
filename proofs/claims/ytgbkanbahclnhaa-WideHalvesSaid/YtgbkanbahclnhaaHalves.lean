/- A walk: heliographlaw1.WideHalves returns true. -/
import Derived.Test.YtgbkanbahclnhaaWideB
namespace Go.Proofs.Ytgbkanbahclnhaa
open Go.RowKit Go.Sort
set_option linter.unusedVariables false

theorem shl_hi (n : Nat) : hiN (n * 4294967296) = n / 4294967296 := by unfold hiN; omega
theorem hi_top (n m : Nat) (h : m < lim) : hiN (n * 18446744073709551616 + m) = n := by rw [lim_eq] at h; unfold hiN; omega
theorem lo_top (n m : Nat) (h : m < lim) : loN (n * 18446744073709551616 + m) = m := by rw [lim_eq] at h; unfold loN; omega
theorem sum_halves (a b x y u v : Nat) (ea : a = x * 4294967296 + y) (eb : b = u * 4294967296 + v) :
    x * u * 18446744073709551616 + y * v + x * v * 4294967296 + y * u * 4294967296 = a * b := by
  rw [ea, eb, Lib.split_mul]
  omega

set_option maxRecDepth 100000 in
set_option maxHeartbeats 2000000 in
theorem halves (a b : Nat) (ha : a < lim) (hb0 : b < lim) (w : World) :
    Calls Try.prog 7 #[.int .u64 a, .int .u64 b] w fun e w' => e = .returned (.bool true) ∧ Below w.heap.size w w' := by
  obtain ⟨x, ex, bx⟩ : ∃ n : Nat, (a : Int) / 4294967296 = n ∧ n < 4294967296 := ⟨a / 4294967296, by omega, by rw [lim_eq] at ha; omega⟩
  obtain ⟨y, ey, by'⟩ : ∃ n : Nat, bits .and .u64 (a : Int) 4294967295 = n ∧ n < 4294967296 := ⟨_, M.maskN a ha, by omega⟩
  obtain ⟨u, eu, bu⟩ : ∃ n : Nat, (b : Int) / 4294967296 = n ∧ n < 4294967296 := ⟨b / 4294967296, by omega, by rw [lim_eq] at hb0; omega⟩
  obtain ⟨v, ev, bv⟩ : ∃ n : Nat, bits .and .u64 (b : Int) 4294967295 = n ∧ n < 4294967296 := ⟨_, M.maskN b hb0, by omega⟩
  have hya : a = x * 4294967296 + y := by have := M.maskN a ha; rw [ey] at this; omega
  have hyb : b = u * 4294967296 + v := by have := M.maskN b hb0; rw [ev] at this; omega
  have hsum := sum_halves a b x y u v hya hyb
  have w1 : x * u < lim := by rw [lim_eq]; exact Nat.mul_lt_mul'' bx bu
  have w2 : y * v < lim := by rw [lim_eq]; exact Nat.mul_lt_mul'' by' bv
  have w3 : x * v < lim := by rw [lim_eq]; exact Nat.mul_lt_mul'' bx bv
  have w4 : y * u < lim := by rw [lim_eq]; exact Nat.mul_lt_mul'' by' bu
  have wp := mul_lt a b ha hb0
  obtain ⟨XU, e1, d1⟩ : ∃ n : Nat, IntKind.u64.wrap ((x : Int) * u) = n ∧ n = x * u := ⟨_, by rw [M.mulN, M.wrapN _ w1], rfl⟩
  obtain ⟨YV, e2, d2⟩ : ∃ n : Nat, IntKind.u64.wrap ((y : Int) * v) = n ∧ n = y * v := ⟨_, by rw [M.mulN, M.wrapN _ w2], rfl⟩
  obtain ⟨XV, e3, d3⟩ : ∃ n : Nat, IntKind.u64.wrap ((x : Int) * v) = n ∧ n = x * v := ⟨_, by rw [M.mulN, M.wrapN _ w3], rfl⟩
  obtain ⟨YU, e4, d4⟩ : ∃ n : Nat, IntKind.u64.wrap ((y : Int) * u) = n ∧ n = y * u := ⟨_, by rw [M.mulN, M.wrapN _ w4], rfl⟩
  obtain ⟨LO, e5, d5⟩ : ∃ n : Nat, IntKind.u64.wrap ((a : Int) * b) = n ∧ n = loN (a * b) := ⟨_, by rw [M.mulN, M.wrapM]; rfl, rfl⟩
  obtain ⟨H3, e6, d6⟩ : ∃ n : Nat, (XV : Int) / 4294967296 = n ∧ n = hiN (XV * 4294967296) := ⟨XV / 4294967296, by omega, (shl_hi _).symm⟩
  obtain ⟨L3, e7, d7⟩ : ∃ n : Nat, IntKind.u64.wrap ((XV : Int) * 4294967296) = n ∧ n = loN (XV * 4294967296) := ⟨_, by rw [show ((XV : Int) * 4294967296) = ((XV * 4294967296 : Nat) : Int) by omega, M.wrapM]; rfl, rfl⟩
  obtain ⟨H4, e8, d8⟩ : ∃ n : Nat, (YU : Int) / 4294967296 = n ∧ n = hiN (YU * 4294967296) := ⟨YU / 4294967296, by omega, (shl_hi _).symm⟩
  obtain ⟨L4, e9, d9⟩ : ∃ n : Nat, IntKind.u64.wrap ((YU : Int) * 4294967296) = n ∧ n = loN (YU * 4294967296) := ⟨_, by rw [show ((YU : Int) * 4294967296) = ((YU * 4294967296 : Nat) : Int) by omega, M.wrapM]; rfl, rfl⟩
  rw [← d1, ← d2, ← d3, ← d4] at hsum
  rw [← d1] at w1; rw [← d2] at w2; rw [← d3] at w3; rw [← d4] at w4
  obtain ⟨P, hP⟩ : ∃ n, a * b = n := ⟨_, rfl⟩
  rw [hP] at hsum wp d5
  obtain ⟨S1, hS1⟩ : ∃ n, XU * 18446744073709551616 + YV = n := ⟨_, rfl⟩
  obtain ⟨S3, hS3⟩ : ∃ n, XV * 4294967296 = n := ⟨_, rfl⟩
  obtain ⟨S4, hS4⟩ : ∃ n, YU * 4294967296 = n := ⟨_, rfl⟩
  have y1 : S1 < lim * lim := by rw [lim_eq] at *; omega
  have y3 : S3 < lim * lim := by rw [lim_eq] at *; omega
  have y4 : S4 < lim * lim := by rw [lim_eq] at *; omega
  have y5 : S1 + S3 < lim * lim := by rw [lim_eq] at *; omega
  have y6 : hiN S1 = XU := by rw [← hS1, hi_top _ _ w2]
  have y7 : loN S1 = YV := by rw [← hS1, lo_top _ _ w2]
  rw [hS1, hS3, hS4] at hsum
  rw [hS3] at d6 d7
  rw [hS4] at d8 d9
  have m0 := fun w => mulc a b ha hb0 rfl rfl (H := (hiN P : Nat)) (L := LO) (by rw [hP]) (by rw [hP, d5]) w
  have a1 := fun w => addc (XU * 18446744073709551616 + 0) YV (by rw [lim_eq] at *; omega) (by rw [lim_eq] at *; omega) (by rw [lim_eq] at *; omega) (A := XU) (B := 0) (C := 0) (D := YV) (H := XU) (L := YV)
    (by rw [hi_top _ _ (by decide)]) (by rw [lo_top _ _ (by decide)]; rfl) (by rw [lim_eq] at w2; unfold hiN; omega) (by rw [lim_eq] at w2; unfold loN; omega) (by rw [Nat.add_zero, hi_top _ _ w2]) (by rw [Nat.add_zero, lo_top _ _ w2]) w
  have a2 := fun w => addc S1 S3 y1 y3 y5 (A := XU) (B := YV) (C := H3) (D := L3) (by rw [y6]) (by rw [y7]) (by rw [d6]) (by rw [d7]) rfl rfl w
  have a3 := fun w => addc (S1 + S3) S4 y5 y4 (by rw [hsum]; exact wp) rfl rfl (C := H4) (D := L4) (H := (hiN P : Nat)) (L := LO) (by rw [d8]) (by rw [d9]) (by rw [hsum]) (by rw [hsum, d5]) w
  generalize hiN (S1 + S3) = H2 at *
  generalize loN (S1 + S3) = L2 at *
  generalize hiN P = HI at *
  have M0 := Lib.hid m0; have A1 := Lib.hid a1; have A2 := Lib.hid a2; have A3 := Lib.hid a3
  clear hS1 hS3 hS4 y1 y3 y4 y5 y6 y7 m0 a1 a2 a3 d1 d2 d3 d4 d5 d6 d7 d8 d9 hya hyb hsum hP wp
  go_enter Try.func7, Try.ntmps7
  go_wp2_with fail
  refine (M0.out _).mono ?_
  rintro e w1 ⟨rfl, hb⟩
  have hB1 : Below w.heap.size w w1 := Below.trans (by (repeat' (first | (with_reducible exact Below.refl _ _) | (with_reducible assumption) | (with_reducible refine below_drewN ?_ _) | (with_reducible refine Below.drew ?_) | (with_reducible refine Below.alloc ?_ ?_ _) | (with_reducible refine Below.setCell ?_ ?_ _) | omega | (simp; done) | (simp; omega)))) (hb.mono (by first | omega | (simp; done) | (simp; omega)))
  have l1 := hB1.size
  clear hb
  go_wp2_with fail
  as_aux_lemma =>
    refine (A1.out _).mono ?_
    rintro e w2 ⟨rfl, hb⟩
    have hB2 : Below w.heap.size w w2 := Below.trans (by (repeat' (first | (with_reducible exact Below.refl _ _) | (with_reducible assumption) | (with_reducible refine below_drewN ?_ _) | (with_reducible refine Below.drew ?_) | (with_reducible refine Below.alloc ?_ ?_ _) | (with_reducible refine Below.setCell ?_ ?_ _) | omega | (simp; done) | (simp; omega)))) (hb.mono (by first | omega | (simp; done) | (simp; omega)))
    have k2_0 : Blk w2 (w1.heap.size) 44 #[.int .u64 HI, .int .u64 LO] := Blk.below (by (repeat' (first | (with_reducible assumption) | (with_reducible exact Blk.new _ _ _) | (exact Blk.newAt (by first | rfl | (simp; done) | omega)) | (with_reducible refine Blk.drewN ?_ _) | (with_reducible refine Blk.drew ?_) | (with_reducible refine Blk.alloc ?_ _) | (with_reducible apply Blk.set_) | (with_reducible refine Blk.far ?_ ?_ _) | rfl | omega | (simp; done) | (simp; omega)))) hb (by first | omega | (simp; done) | (simp; omega))
    have c2_0 := k2_0.cell
    have f2_0 := k2_0.frozen
    have l2_0 := k2_0.lt
    have l2 := hB2.size
    clear hb hB1
    go_wp2_with fail
    as_aux_lemma =>
      refine (A2.out _).mono ?_
      rintro e w3 ⟨rfl, hb⟩
      have hB3 : Below w.heap.size w w3 := Below.trans (by (repeat' (first | (with_reducible exact Below.refl _ _) | (with_reducible assumption) | (with_reducible refine below_drewN ?_ _) | (with_reducible refine Below.drew ?_) | (with_reducible refine Below.alloc ?_ ?_ _) | (with_reducible refine Below.setCell ?_ ?_ _) | omega | (simp; done) | (simp; omega)))) (hb.mono (by first | omega | (simp; done) | (simp; omega)))
      have k3_0 : Blk w3 (w1.heap.size) 44 #[.int .u64 HI, .int .u64 LO] := Blk.below (by (repeat' (first | (with_reducible assumption) | (with_reducible exact Blk.new _ _ _) | (exact Blk.newAt (by first | rfl | (simp; done) | omega)) | (with_reducible refine Blk.drewN ?_ _) | (with_reducible refine Blk.drew ?_) | (with_reducible refine Blk.alloc ?_ _) | (with_reducible apply Blk.set_) | (with_reducible refine Blk.far ?_ ?_ _) | rfl | omega | (simp; done) | (simp; omega)))) hb (by first | omega | (simp; done) | (simp; omega))
      have k3_1 : Blk w3 (w2.heap.size) 44 #[.int .u64 XU, .int .u64 YV] := Blk.below (by (repeat' (first | (with_reducible assumption) | (with_reducible exact Blk.new _ _ _) | (exact Blk.newAt (by first | rfl | (simp; done) | omega)) | (with_reducible refine Blk.drewN ?_ _) | (with_reducible refine Blk.drew ?_) | (with_reducible refine Blk.alloc ?_ _) | (with_reducible apply Blk.set_) | (with_reducible refine Blk.far ?_ ?_ _) | rfl | omega | (simp; done) | (simp; omega)))) hb (by first | omega | (simp; done) | (simp; omega))
      have c3_0 := k3_0.cell
      have f3_0 := k3_0.frozen
      have l3_0 := k3_0.lt
      have c3_1 := k3_1.cell
      have f3_1 := k3_1.frozen
      have l3_1 := k3_1.lt
      have l3 := hB3.size
      clear hb k2_0 c2_0 f2_0 l2_0 hB2
      go_wp2_with fail
      as_aux_lemma =>
        refine (A3.out _).mono ?_
        rintro e w4 ⟨rfl, hb⟩
        have hB4 : Below w.heap.size w w4 := Below.trans (by (repeat' (first | (with_reducible exact Below.refl _ _) | (with_reducible assumption) | (with_reducible refine below_drewN ?_ _) | (with_reducible refine Below.drew ?_) | (with_reducible refine Below.alloc ?_ ?_ _) | (with_reducible refine Below.setCell ?_ ?_ _) | omega | (simp; done) | (simp; omega)))) (hb.mono (by first | omega | (simp; done) | (simp; omega)))
        have k4_0 : Blk w4 (w1.heap.size) 44 #[.int .u64 HI, .int .u64 LO] := Blk.below (by (repeat' (first | (with_reducible assumption) | (with_reducible exact Blk.new _ _ _) | (exact Blk.newAt (by first | rfl | (simp; done) | omega)) | (with_reducible refine Blk.drewN ?_ _) | (with_reducible refine Blk.drew ?_) | (with_reducible refine Blk.alloc ?_ _) | (with_reducible apply Blk.set_) | (with_reducible refine Blk.far ?_ ?_ _) | rfl | omega | (simp; done) | (simp; omega)))) hb (by first | omega | (simp; done) | (simp; omega))
        have k4_1 : Blk w4 (w3.heap.size) 44 #[.int .u64 H2, .int .u64 L2] := Blk.below (by (repeat' (first | (with_reducible assumption) | (with_reducible exact Blk.new _ _ _) | (exact Blk.newAt (by first | rfl | (simp; done) | omega)) | (with_reducible refine Blk.drewN ?_ _) | (with_reducible refine Blk.drew ?_) | (with_reducible refine Blk.alloc ?_ _) | (with_reducible apply Blk.set_) | (with_reducible refine Blk.far ?_ ?_ _) | rfl | omega | (simp; done) | (simp; omega)))) hb (by first | omega | (simp; done) | (simp; omega))
        have c4_0 := k4_0.cell
        have f4_0 := k4_0.frozen
        have l4_0 := k4_0.lt
        have c4_1 := k4_1.cell
        have f4_1 := k4_1.frozen
        have l4_1 := k4_1.lt
        have l4 := hB4.size
        clear hb k3_0 c3_0 f3_0 l3_0 k3_1 c3_1 f3_1 l3_1 hB3
        go_wp2_with fail
        as_aux_lemma =>
          refine (awake1 _).mono ?_
          rintro e w6 ⟨rfl, hb⟩
          have hB6 : Below w.heap.size w w6 := Below.trans (by (repeat' (first | (with_reducible exact Below.refl _ _) | (with_reducible assumption) | (with_reducible refine below_drewN ?_ _) | (with_reducible refine Below.drew ?_) | (with_reducible refine Below.alloc ?_ ?_ _) | (with_reducible refine Below.setCell ?_ ?_ _) | omega | (simp; done) | (simp; omega)))) (hb.mono (by first | omega | (simp; done) | (simp; omega)))
          go_wp2_with fail
          go_ret
          exact ⟨rfl, hB6⟩
end Go.Proofs.Ytgbkanbahclnhaa
