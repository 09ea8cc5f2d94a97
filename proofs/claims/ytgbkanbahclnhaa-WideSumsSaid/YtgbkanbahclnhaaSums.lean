/- A walk: heliographlaw1.WideSums returns true. -/
import Derived.Test.YtgbkanbahclnhaaWideB
namespace Go.Proofs.Ytgbkanbahclnhaa
open Go.RowKit Go.Sort

theorem nat_xor_max (a : Nat) (ha : a < 18446744073709551616) : 18446744073709551615 ^^^ a = 18446744073709551615 - a := by
  have h := BitVec.toNat_not (x := BitVec.ofNat 64 a)
  rw [← BitVec.allOnes_xor, BitVec.toNat_xor, BitVec.toNat_ofNat, Nat.mod_eq_of_lt ha, BitVec.toNat_allOnes] at h
  exact h
theorem xor_max (a : Nat) (ha : a < lim) : bits .xor .u64 IntKind.u64.max (a : Int) = 18446744073709551615 - (a : Int) := by
  rw [lim_eq] at ha
  have h := u64_xor_nat 18446744073709551615 a (by decide) ha
  have e : IntKind.u64.max = ((18446744073709551615 : Nat) : Int) := rfl
  rw [e, h, nat_xor_max a ha]
  omega

theorem not_hi (n : Nat) (h : n < lim * lim) : ((hiN (lim * lim - 1 - n) : Nat) : Int) = 18446744073709551615 - (hiN n : Nat) := by rw [lim_eq] at *; unfold hiN; omega
theorem not_lo (n : Nat) (h : n < lim * lim) : ((loN (lim * lim - 1 - n) : Nat) : Int) = 18446744073709551615 - (loN n : Nat) := by rw [lim_eq] at *; unfold loN; omega

set_option maxRecDepth 100000 in
set_option maxHeartbeats 2000000 in
theorem sums_yes (xh xl yh yl : Nat) (a1 : xh < lim) (a2 : xl < lim) (a3 : yh < lim) (a4 : yl < lim) (h : val xh xl + val yh yl < lim * lim) (w : World) :
    Calls Try.prog 11 #[.agg #[.int .u64 xh, .int .u64 xl], .agg #[.int .u64 yh, .int .u64 yl]] w fun e w' => e = .returned (.bool true) ∧ Below w.heap.size w w' := by
  have q1 := hi_val xh xl a2
  have q2 := lo_val xh xl a2
  have q3 := hi_val yh yl a4
  have q4 := lo_val yh yl a4
  have b1 := val_lt xh xl a1 a2
  have b2 := val_lt yh yl a3 a4
  have n1 := not_hi _ b1
  have n2 := not_lo _ b1
  rw [q1] at n1
  rw [q2] at n2
  generalize val xh xl = n at *
  generalize val yh yl = m at *
  have r1 : ((hiN n : Nat) : Int) = xh := by rw [q1]
  have r2 : ((loN n : Nat) : Int) = xl := by rw [q2]
  have r3 : ((hiN m : Nat) : Int) = yh := by rw [q3]
  have r4 : ((loN m : Nat) : Int) = yl := by rw [q4]
  have n3 : ((hiN (lim * lim - 1 - n) : Nat) : Int) = bits .xor .u64 IntKind.u64.max (xh : Int) := by rw [n1, xor_max xh a1]
  have n4 : ((loN (lim * lim - 1 - n) : Nat) : Int) = bits .xor .u64 IntKind.u64.max (xl : Int) := by rw [n2, xor_max xl a2]
  have s1 : lim * lim - 1 - n < lim * lim := by omega
  have s2 : n + (lim * lim - 1 - n) < lim * lim := by omega
  have s3 : ¬ n + m < lim * lim → lim * lim - 1 - n < m := by omega
  have S3 := Lib.hid s3
  clear s3
  generalize lim * lim - 1 - n = c at *
  have N3 := Lib.hid n3
  have N4 := Lib.hid n4
  clear n1 n2 n3 n4 q1 q2 q3 q4
  go_enter Try.func11, Try.ntmps11
  go_wp2_with fail
  refine (addc n m b1 b2 h r1 r2 r3 r4 rfl rfl _).mono ?_
  rintro e w1 ⟨rfl, hb⟩
  have hB1 : Below w.heap.size w w1 := Below.trans (by (repeat' (first | (with_reducible exact Below.refl _ _) | (with_reducible assumption) | (with_reducible refine below_drewN ?_ _) | (with_reducible refine Below.drew ?_) | (with_reducible refine Below.alloc ?_ ?_ _) | (with_reducible refine Below.setCell ?_ ?_ _) | omega | (simp; done) | (simp; omega)))) (hb.mono (by first | omega | (simp; done) | (simp; omega)))
  have k1_0 : Blk w1 (w.heap.size) 44 #[.int .u64 xh, .int .u64 xl] := Blk.below (by (repeat' (first | (with_reducible assumption) | (with_reducible exact Blk.new _ _ _) | (exact Blk.newAt (by first | rfl | (simp; done) | omega)) | (with_reducible refine Blk.drewN ?_ _) | (with_reducible refine Blk.drew ?_) | (with_reducible refine Blk.alloc ?_ _) | (with_reducible apply Blk.set_) | (with_reducible refine Blk.far ?_ ?_ _) | rfl | omega | (simp; done) | (simp; omega)))) hb (by first | omega | (simp; done) | (simp; omega))
  have k1_1 : Blk w1 (w.heap.size + 1) 44 #[.int .u64 yh, .int .u64 yl] := Blk.below (by (repeat' (first | (with_reducible assumption) | (with_reducible exact Blk.new _ _ _) | (exact Blk.newAt (by first | rfl | (simp; done) | omega)) | (with_reducible refine Blk.drewN ?_ _) | (with_reducible refine Blk.drew ?_) | (with_reducible refine Blk.alloc ?_ _) | (with_reducible apply Blk.set_) | (with_reducible refine Blk.far ?_ ?_ _) | rfl | omega | (simp; done) | (simp; omega)))) hb (by first | omega | (simp; done) | (simp; omega))
  have c1_0 := k1_0.cell
  have f1_0 := k1_0.frozen
  have l1_0 := k1_0.lt
  have c1_1 := k1_1.cell
  have f1_1 := k1_1.frozen
  have l1_1 := k1_1.lt
  clear hb
  go_wp2_with fail
  as_aux_lemma =>
    refine (addc m n b2 b1 (by omega) r3 r4 r1 r2 (show ((hiN (m + n) : Nat) : Int) = ((hiN (n + m) : Nat) : Int) by rw [Nat.add_comm]) (show ((loN (m + n) : Nat) : Int) = ((loN (n + m) : Nat) : Int) by rw [Nat.add_comm]) _).mono ?_
    rintro e w2 ⟨rfl, hb⟩
    have hB2 : Below w.heap.size w w2 := Below.trans (by (repeat' (first | (with_reducible exact Below.refl _ _) | (with_reducible assumption) | (with_reducible refine below_drewN ?_ _) | (with_reducible refine Below.drew ?_) | (with_reducible refine Below.alloc ?_ ?_ _) | (with_reducible refine Below.setCell ?_ ?_ _) | omega | (simp; done) | (simp; omega)))) (hb.mono (by first | omega | (simp; done) | (simp; omega)))
    have k2_0 : Blk w2 (w.heap.size) 44 #[.int .u64 xh, .int .u64 xl] := Blk.below (by (repeat' (first | (with_reducible assumption) | (with_reducible exact Blk.new _ _ _) | (exact Blk.newAt (by first | rfl | (simp; done) | omega)) | (with_reducible refine Blk.drewN ?_ _) | (with_reducible refine Blk.drew ?_) | (with_reducible refine Blk.alloc ?_ _) | (with_reducible apply Blk.set_) | (with_reducible refine Blk.far ?_ ?_ _) | rfl | omega | (simp; done) | (simp; omega)))) hb (by first | omega | (simp; done) | (simp; omega))
    have k2_1 : Blk w2 (w.heap.size + 1) 44 #[.int .u64 yh, .int .u64 yl] := Blk.below (by (repeat' (first | (with_reducible assumption) | (with_reducible exact Blk.new _ _ _) | (exact Blk.newAt (by first | rfl | (simp; done) | omega)) | (with_reducible refine Blk.drewN ?_ _) | (with_reducible refine Blk.drew ?_) | (with_reducible refine Blk.alloc ?_ _) | (with_reducible apply Blk.set_) | (with_reducible refine Blk.far ?_ ?_ _) | rfl | omega | (simp; done) | (simp; omega)))) hb (by first | omega | (simp; done) | (simp; omega))
    have k2_2 : Blk w2 (w1.heap.size) 44 #[.int .u64 (hiN (n + m) : Nat), .int .u64 (loN (n + m) : Nat)] := Blk.below (by (repeat' (first | (with_reducible assumption) | (with_reducible exact Blk.new _ _ _) | (exact Blk.newAt (by first | rfl | (simp; done) | omega)) | (with_reducible refine Blk.drewN ?_ _) | (with_reducible refine Blk.drew ?_) | (with_reducible refine Blk.alloc ?_ _) | (with_reducible apply Blk.set_) | (with_reducible refine Blk.far ?_ ?_ _) | rfl | omega | (simp; done) | (simp; omega)))) hb (by first | omega | (simp; done) | (simp; omega))
    have c2_0 := k2_0.cell
    have f2_0 := k2_0.frozen
    have l2_0 := k2_0.lt
    have c2_1 := k2_1.cell
    have f2_1 := k2_1.frozen
    have l2_1 := k2_1.lt
    have c2_2 := k2_2.cell
    have f2_2 := k2_2.frozen
    have l2_2 := k2_2.lt
    clear hb k1_0 c1_0 f1_0 l1_0 k1_1 c1_1 f1_1 l1_1 hB1
    go_wp2_with fail
    as_aux_lemma =>
      refine (addc n c b1 s1 s2 r1 r2 N3.out N4.out rfl rfl _).mono ?_
      rintro e w3 ⟨rfl, hb⟩
      have hB3 : Below w.heap.size w w3 := Below.trans (by (repeat' (first | (with_reducible exact Below.refl _ _) | (with_reducible assumption) | (with_reducible refine below_drewN ?_ _) | (with_reducible refine Below.drew ?_) | (with_reducible refine Below.alloc ?_ ?_ _) | (with_reducible refine Below.setCell ?_ ?_ _) | omega | (simp; done) | (simp; omega)))) (hb.mono (by first | omega | (simp; done) | (simp; omega)))
      have k3_0 : Blk w3 (w.heap.size) 44 #[.int .u64 xh, .int .u64 xl] := Blk.below (by (repeat' (first | (with_reducible assumption) | (with_reducible exact Blk.new _ _ _) | (exact Blk.newAt (by first | rfl | (simp; done) | omega)) | (with_reducible refine Blk.drewN ?_ _) | (with_reducible refine Blk.drew ?_) | (with_reducible refine Blk.alloc ?_ _) | (with_reducible apply Blk.set_) | (with_reducible refine Blk.far ?_ ?_ _) | rfl | omega | (simp; done) | (simp; omega)))) hb (by first | omega | (simp; done) | (simp; omega))
      have k3_1 : Blk w3 (w.heap.size + 1) 44 #[.int .u64 yh, .int .u64 yl] := Blk.below (by (repeat' (first | (with_reducible assumption) | (with_reducible exact Blk.new _ _ _) | (exact Blk.newAt (by first | rfl | (simp; done) | omega)) | (with_reducible refine Blk.drewN ?_ _) | (with_reducible refine Blk.drew ?_) | (with_reducible refine Blk.alloc ?_ _) | (with_reducible apply Blk.set_) | (with_reducible refine Blk.far ?_ ?_ _) | rfl | omega | (simp; done) | (simp; omega)))) hb (by first | omega | (simp; done) | (simp; omega))
      have k3_2 : Blk w3 (w1.heap.size) 44 #[.int .u64 (hiN (n + m) : Nat), .int .u64 (loN (n + m) : Nat)] := Blk.below (by (repeat' (first | (with_reducible assumption) | (with_reducible exact Blk.new _ _ _) | (exact Blk.newAt (by first | rfl | (simp; done) | omega)) | (with_reducible refine Blk.drewN ?_ _) | (with_reducible refine Blk.drew ?_) | (with_reducible refine Blk.alloc ?_ _) | (with_reducible apply Blk.set_) | (with_reducible refine Blk.far ?_ ?_ _) | rfl | omega | (simp; done) | (simp; omega)))) hb (by first | omega | (simp; done) | (simp; omega))
      have k3_3 : Blk w3 (w2.heap.size) 44 #[.int .u64 (hiN (n + m) : Nat), .int .u64 (loN (n + m) : Nat)] := Blk.below (by (repeat' (first | (with_reducible assumption) | (with_reducible exact Blk.new _ _ _) | (exact Blk.newAt (by first | rfl | (simp; done) | omega)) | (with_reducible refine Blk.drewN ?_ _) | (with_reducible refine Blk.drew ?_) | (with_reducible refine Blk.alloc ?_ _) | (with_reducible apply Blk.set_) | (with_reducible refine Blk.far ?_ ?_ _) | rfl | omega | (simp; done) | (simp; omega)))) hb (by first | omega | (simp; done) | (simp; omega))
      have c3_0 := k3_0.cell
      have f3_0 := k3_0.frozen
      have l3_0 := k3_0.lt
      have c3_1 := k3_1.cell
      have f3_1 := k3_1.frozen
      have l3_1 := k3_1.lt
      have c3_2 := k3_2.cell
      have f3_2 := k3_2.frozen
      have l3_2 := k3_2.lt
      have c3_3 := k3_3.cell
      have f3_3 := k3_3.frozen
      have l3_3 := k3_3.lt
      clear hb k2_0 c2_0 f2_0 l2_0 k2_1 c2_1 f2_1 l2_1 k2_2 c2_2 f2_2 l2_2 hB2
      obtain ⟨H1, e1, p1⟩ : ∃ H, cmpN (n + m) n = H ∧ 0 ≤ H := ⟨_, rfl, by rcases Nat.lt_trichotomy (n + m) n with h | h | h <;> first | omega | (rw [cmp_eq h]; omega) | (rw [cmp_gt h]; omega)⟩
      obtain ⟨H2, e2, p2⟩ : ∃ H, cmpN (n + m) m = H ∧ 0 ≤ H := ⟨_, rfl, by rcases Nat.lt_trichotomy (n + m) m with h | h | h <;> first | omega | (rw [cmp_eq h]; omega) | (rw [cmp_gt h]; omega)⟩
      have E1 := Lib.hid e1
      have E2 := Lib.hid e2
      clear e1 e2
      go_wp2_with fail
      as_aux_lemma =>
        refine (cmpc (n + m) n rfl rfl r1 r2 E1.out _).mono ?_
        rintro e w4 ⟨rfl, hb⟩
        have hB4 : Below w.heap.size w w4 := Below.trans (by (repeat' (first | (with_reducible exact Below.refl _ _) | (with_reducible assumption) | (with_reducible refine below_drewN ?_ _) | (with_reducible refine Below.drew ?_) | (with_reducible refine Below.alloc ?_ ?_ _) | (with_reducible refine Below.setCell ?_ ?_ _) | omega | (simp; done) | (simp; omega)))) (hb.mono (by first | omega | (simp; done) | (simp; omega)))
        have k4_0 : Blk w4 (w.heap.size) 44 #[.int .u64 xh, .int .u64 xl] := Blk.below (by (repeat' (first | (with_reducible assumption) | (with_reducible exact Blk.new _ _ _) | (exact Blk.newAt (by first | rfl | (simp; done) | omega)) | (with_reducible refine Blk.drewN ?_ _) | (with_reducible refine Blk.drew ?_) | (with_reducible refine Blk.alloc ?_ _) | (with_reducible apply Blk.set_) | (with_reducible refine Blk.far ?_ ?_ _) | rfl | omega | (simp; done) | (simp; omega)))) hb (by first | omega | (simp; done) | (simp; omega))
        have k4_1 : Blk w4 (w.heap.size + 1) 44 #[.int .u64 yh, .int .u64 yl] := Blk.below (by (repeat' (first | (with_reducible assumption) | (with_reducible exact Blk.new _ _ _) | (exact Blk.newAt (by first | rfl | (simp; done) | omega)) | (with_reducible refine Blk.drewN ?_ _) | (with_reducible refine Blk.drew ?_) | (with_reducible refine Blk.alloc ?_ _) | (with_reducible apply Blk.set_) | (with_reducible refine Blk.far ?_ ?_ _) | rfl | omega | (simp; done) | (simp; omega)))) hb (by first | omega | (simp; done) | (simp; omega))
        have k4_2 : Blk w4 (w1.heap.size) 44 #[.int .u64 (hiN (n + m) : Nat), .int .u64 (loN (n + m) : Nat)] := Blk.below (by (repeat' (first | (with_reducible assumption) | (with_reducible exact Blk.new _ _ _) | (exact Blk.newAt (by first | rfl | (simp; done) | omega)) | (with_reducible refine Blk.drewN ?_ _) | (with_reducible refine Blk.drew ?_) | (with_reducible refine Blk.alloc ?_ _) | (with_reducible apply Blk.set_) | (with_reducible refine Blk.far ?_ ?_ _) | rfl | omega | (simp; done) | (simp; omega)))) hb (by first | omega | (simp; done) | (simp; omega))
        have k4_3 : Blk w4 (w2.heap.size) 44 #[.int .u64 (hiN (n + m) : Nat), .int .u64 (loN (n + m) : Nat)] := Blk.below (by (repeat' (first | (with_reducible assumption) | (with_reducible exact Blk.new _ _ _) | (exact Blk.newAt (by first | rfl | (simp; done) | omega)) | (with_reducible refine Blk.drewN ?_ _) | (with_reducible refine Blk.drew ?_) | (with_reducible refine Blk.alloc ?_ _) | (with_reducible apply Blk.set_) | (with_reducible refine Blk.far ?_ ?_ _) | rfl | omega | (simp; done) | (simp; omega)))) hb (by first | omega | (simp; done) | (simp; omega))
        have c4_0 := k4_0.cell
        have f4_0 := k4_0.frozen
        have l4_0 := k4_0.lt
        have c4_1 := k4_1.cell
        have f4_1 := k4_1.frozen
        have l4_1 := k4_1.lt
        have c4_2 := k4_2.cell
        have f4_2 := k4_2.frozen
        have l4_2 := k4_2.lt
        have c4_3 := k4_3.cell
        have f4_3 := k4_3.frozen
        have l4_3 := k4_3.lt
        clear hb k3_0 c3_0 f3_0 l3_0 k3_1 c3_1 f3_1 l3_1 k3_2 c3_2 f3_2 l3_2 k3_3 c3_3 f3_3 l3_3 hB3
        go_wp2_with fail
        as_aux_lemma =>
          refine (cmpc (n + m) m rfl rfl r3 r4 E2.out _).mono ?_
          rintro e w5 ⟨rfl, hb⟩
          have hB5 : Below w.heap.size w w5 := Below.trans (by (repeat' (first | (with_reducible exact Below.refl _ _) | (with_reducible assumption) | (with_reducible refine below_drewN ?_ _) | (with_reducible refine Below.drew ?_) | (with_reducible refine Below.alloc ?_ ?_ _) | (with_reducible refine Below.setCell ?_ ?_ _) | omega | (simp; done) | (simp; omega)))) (hb.mono (by first | omega | (simp; done) | (simp; omega)))
          have k5_0 : Blk w5 (w.heap.size) 44 #[.int .u64 xh, .int .u64 xl] := Blk.below (by (repeat' (first | (with_reducible assumption) | (with_reducible exact Blk.new _ _ _) | (exact Blk.newAt (by first | rfl | (simp; done) | omega)) | (with_reducible refine Blk.drewN ?_ _) | (with_reducible refine Blk.drew ?_) | (with_reducible refine Blk.alloc ?_ _) | (with_reducible apply Blk.set_) | (with_reducible refine Blk.far ?_ ?_ _) | rfl | omega | (simp; done) | (simp; omega)))) hb (by first | omega | (simp; done) | (simp; omega))
          have k5_1 : Blk w5 (w.heap.size + 1) 44 #[.int .u64 yh, .int .u64 yl] := Blk.below (by (repeat' (first | (with_reducible assumption) | (with_reducible exact Blk.new _ _ _) | (exact Blk.newAt (by first | rfl | (simp; done) | omega)) | (with_reducible refine Blk.drewN ?_ _) | (with_reducible refine Blk.drew ?_) | (with_reducible refine Blk.alloc ?_ _) | (with_reducible apply Blk.set_) | (with_reducible refine Blk.far ?_ ?_ _) | rfl | omega | (simp; done) | (simp; omega)))) hb (by first | omega | (simp; done) | (simp; omega))
          have k5_2 : Blk w5 (w1.heap.size) 44 #[.int .u64 (hiN (n + m) : Nat), .int .u64 (loN (n + m) : Nat)] := Blk.below (by (repeat' (first | (with_reducible assumption) | (with_reducible exact Blk.new _ _ _) | (exact Blk.newAt (by first | rfl | (simp; done) | omega)) | (with_reducible refine Blk.drewN ?_ _) | (with_reducible refine Blk.drew ?_) | (with_reducible refine Blk.alloc ?_ _) | (with_reducible apply Blk.set_) | (with_reducible refine Blk.far ?_ ?_ _) | rfl | omega | (simp; done) | (simp; omega)))) hb (by first | omega | (simp; done) | (simp; omega))
          have k5_3 : Blk w5 (w2.heap.size) 44 #[.int .u64 (hiN (n + m) : Nat), .int .u64 (loN (n + m) : Nat)] := Blk.below (by (repeat' (first | (with_reducible assumption) | (with_reducible exact Blk.new _ _ _) | (exact Blk.newAt (by first | rfl | (simp; done) | omega)) | (with_reducible refine Blk.drewN ?_ _) | (with_reducible refine Blk.drew ?_) | (with_reducible refine Blk.alloc ?_ _) | (with_reducible apply Blk.set_) | (with_reducible refine Blk.far ?_ ?_ _) | rfl | omega | (simp; done) | (simp; omega)))) hb (by first | omega | (simp; done) | (simp; omega))
          have c5_0 := k5_0.cell
          have f5_0 := k5_0.frozen
          have l5_0 := k5_0.lt
          have c5_1 := k5_1.cell
          have f5_1 := k5_1.frozen
          have l5_1 := k5_1.lt
          have c5_2 := k5_2.cell
          have f5_2 := k5_2.frozen
          have l5_2 := k5_2.lt
          have c5_3 := k5_3.cell
          have f5_3 := k5_3.frozen
          have l5_3 := k5_3.lt
          clear hb k4_0 c4_0 f4_0 l4_0 k4_1 c4_1 f4_1 l4_1 k4_2 c4_2 f4_2 l4_2 k4_3 c4_3 f4_3 l4_3 hB4
          go_wp2_with fail
          as_aux_lemma =>
            refine (awake1 _).mono ?_
            rintro e w6 ⟨rfl, hb⟩
            have hB6 : Below w.heap.size w w6 := hB5.trans (hb.mono hB5.size)
            go_wp2_with fail
            go_ret
            exact ⟨rfl, hB6⟩

set_option maxRecDepth 100000 in
set_option maxHeartbeats 2000000 in
theorem sums_no (xh xl yh yl : Nat) (a1 : xh < lim) (a2 : xl < lim) (a3 : yh < lim) (a4 : yl < lim) (h : ¬ val xh xl + val yh yl < lim * lim) (w : World) :
    Calls Try.prog 11 #[.agg #[.int .u64 xh, .int .u64 xl], .agg #[.int .u64 yh, .int .u64 yl]] w fun e w' => e = .returned (.bool true) ∧ Below w.heap.size w w' := by
  have q1 := hi_val xh xl a2
  have q2 := lo_val xh xl a2
  have q3 := hi_val yh yl a4
  have q4 := lo_val yh yl a4
  have b1 := val_lt xh xl a1 a2
  have b2 := val_lt yh yl a3 a4
  have n1 := not_hi _ b1
  have n2 := not_lo _ b1
  rw [q1] at n1
  rw [q2] at n2
  generalize val xh xl = n at *
  generalize val yh yl = m at *
  have r1 : ((hiN n : Nat) : Int) = xh := by rw [q1]
  have r2 : ((loN n : Nat) : Int) = xl := by rw [q2]
  have r3 : ((hiN m : Nat) : Int) = yh := by rw [q3]
  have r4 : ((loN m : Nat) : Int) = yl := by rw [q4]
  have n3 : ((hiN (lim * lim - 1 - n) : Nat) : Int) = bits .xor .u64 IntKind.u64.max (xh : Int) := by rw [n1, xor_max xh a1]
  have n4 : ((loN (lim * lim - 1 - n) : Nat) : Int) = bits .xor .u64 IntKind.u64.max (xl : Int) := by rw [n2, xor_max xl a2]
  have s1 : lim * lim - 1 - n < lim * lim := by omega
  have s2 : n + (lim * lim - 1 - n) < lim * lim := by omega
  have s3 : ¬ n + m < lim * lim → lim * lim - 1 - n < m := by omega
  have S3 := Lib.hid s3
  clear s3
  generalize lim * lim - 1 - n = c at *
  have N3 := Lib.hid n3
  have N4 := Lib.hid n4
  clear n1 n2 n3 n4 q1 q2 q3 q4
  have g1 : ¬ m + n < lim * lim := by omega
  have g2 : cmpN m c = 1 := cmp_gt (S3.out h)
  have G2 := Lib.hid g2
  clear g2
  go_enter Try.func11, Try.ntmps11
  go_wp2_with fail
  refine (addn n m b1 b2 h r1 r2 r3 r4 _).mono ?_
  rintro e w1 ⟨rfl, hb⟩
  have hB1 : Below w.heap.size w w1 := Below.trans (by (repeat' (first | (with_reducible exact Below.refl _ _) | (with_reducible assumption) | (with_reducible refine below_drewN ?_ _) | (with_reducible refine Below.drew ?_) | (with_reducible refine Below.alloc ?_ ?_ _) | (with_reducible refine Below.setCell ?_ ?_ _) | omega | (simp; done) | (simp; omega)))) (hb.mono (by first | omega | (simp; done) | (simp; omega)))
  have k1_0 : Blk w1 (w.heap.size) 44 #[.int .u64 xh, .int .u64 xl] := Blk.below (by (repeat' (first | (with_reducible assumption) | (with_reducible exact Blk.new _ _ _) | (exact Blk.newAt (by first | rfl | (simp; done) | omega)) | (with_reducible refine Blk.drewN ?_ _) | (with_reducible refine Blk.drew ?_) | (with_reducible refine Blk.alloc ?_ _) | (with_reducible apply Blk.set_) | (with_reducible refine Blk.far ?_ ?_ _) | rfl | omega | (simp; done) | (simp; omega)))) hb (by first | omega | (simp; done) | (simp; omega))
  have k1_1 : Blk w1 (w.heap.size + 1) 44 #[.int .u64 yh, .int .u64 yl] := Blk.below (by (repeat' (first | (with_reducible assumption) | (with_reducible exact Blk.new _ _ _) | (exact Blk.newAt (by first | rfl | (simp; done) | omega)) | (with_reducible refine Blk.drewN ?_ _) | (with_reducible refine Blk.drew ?_) | (with_reducible refine Blk.alloc ?_ _) | (with_reducible apply Blk.set_) | (with_reducible refine Blk.far ?_ ?_ _) | rfl | omega | (simp; done) | (simp; omega)))) hb (by first | omega | (simp; done) | (simp; omega))
  have c1_0 := k1_0.cell
  have f1_0 := k1_0.frozen
  have l1_0 := k1_0.lt
  have c1_1 := k1_1.cell
  have f1_1 := k1_1.frozen
  have l1_1 := k1_1.lt
  clear hb
  go_wp2_with fail
  as_aux_lemma =>
    refine (addn m n b2 b1 g1 r3 r4 r1 r2 _).mono ?_
    rintro e w2 ⟨rfl, hb⟩
    have hB2 : Below w.heap.size w w2 := Below.trans (by (repeat' (first | (with_reducible exact Below.refl _ _) | (with_reducible assumption) | (with_reducible refine below_drewN ?_ _) | (with_reducible refine Below.drew ?_) | (with_reducible refine Below.alloc ?_ ?_ _) | (with_reducible refine Below.setCell ?_ ?_ _) | omega | (simp; done) | (simp; omega)))) (hb.mono (by first | omega | (simp; done) | (simp; omega)))
    have k2_0 : Blk w2 (w.heap.size) 44 #[.int .u64 xh, .int .u64 xl] := Blk.below (by (repeat' (first | (with_reducible assumption) | (with_reducible exact Blk.new _ _ _) | (exact Blk.newAt (by first | rfl | (simp; done) | omega)) | (with_reducible refine Blk.drewN ?_ _) | (with_reducible refine Blk.drew ?_) | (with_reducible refine Blk.alloc ?_ _) | (with_reducible apply Blk.set_) | (with_reducible refine Blk.far ?_ ?_ _) | rfl | omega | (simp; done) | (simp; omega)))) hb (by first | omega | (simp; done) | (simp; omega))
    have k2_1 : Blk w2 (w.heap.size + 1) 44 #[.int .u64 yh, .int .u64 yl] := Blk.below (by (repeat' (first | (with_reducible assumption) | (with_reducible exact Blk.new _ _ _) | (exact Blk.newAt (by first | rfl | (simp; done) | omega)) | (with_reducible refine Blk.drewN ?_ _) | (with_reducible refine Blk.drew ?_) | (with_reducible refine Blk.alloc ?_ _) | (with_reducible apply Blk.set_) | (with_reducible refine Blk.far ?_ ?_ _) | rfl | omega | (simp; done) | (simp; omega)))) hb (by first | omega | (simp; done) | (simp; omega))
    have k2_2 : Blk w2 (w1.heap.size) 44 #[.int .u64 0, .int .u64 0] := Blk.below (by (repeat' (first | (with_reducible assumption) | (with_reducible exact Blk.new _ _ _) | (exact Blk.newAt (by first | rfl | (simp; done) | omega)) | (with_reducible refine Blk.drewN ?_ _) | (with_reducible refine Blk.drew ?_) | (with_reducible refine Blk.alloc ?_ _) | (with_reducible apply Blk.set_) | (with_reducible refine Blk.far ?_ ?_ _) | rfl | omega | (simp; done) | (simp; omega)))) hb (by first | omega | (simp; done) | (simp; omega))
    have c2_0 := k2_0.cell
    have f2_0 := k2_0.frozen
    have l2_0 := k2_0.lt
    have c2_1 := k2_1.cell
    have f2_1 := k2_1.frozen
    have l2_1 := k2_1.lt
    have c2_2 := k2_2.cell
    have f2_2 := k2_2.frozen
    have l2_2 := k2_2.lt
    clear hb k1_0 c1_0 f1_0 l1_0 k1_1 c1_1 f1_1 l1_1 hB1
    go_wp2_with fail
    as_aux_lemma =>
      refine (addc n c b1 s1 s2 r1 r2 N3.out N4.out rfl rfl _).mono ?_
      rintro e w3 ⟨rfl, hb⟩
      have hB3 : Below w.heap.size w w3 := Below.trans (by (repeat' (first | (with_reducible exact Below.refl _ _) | (with_reducible assumption) | (with_reducible refine below_drewN ?_ _) | (with_reducible refine Below.drew ?_) | (with_reducible refine Below.alloc ?_ ?_ _) | (with_reducible refine Below.setCell ?_ ?_ _) | omega | (simp; done) | (simp; omega)))) (hb.mono (by first | omega | (simp; done) | (simp; omega)))
      have k3_0 : Blk w3 (w.heap.size) 44 #[.int .u64 xh, .int .u64 xl] := Blk.below (by (repeat' (first | (with_reducible assumption) | (with_reducible exact Blk.new _ _ _) | (exact Blk.newAt (by first | rfl | (simp; done) | omega)) | (with_reducible refine Blk.drewN ?_ _) | (with_reducible refine Blk.drew ?_) | (with_reducible refine Blk.alloc ?_ _) | (with_reducible apply Blk.set_) | (with_reducible refine Blk.far ?_ ?_ _) | rfl | omega | (simp; done) | (simp; omega)))) hb (by first | omega | (simp; done) | (simp; omega))
      have k3_1 : Blk w3 (w.heap.size + 1) 44 #[.int .u64 yh, .int .u64 yl] := Blk.below (by (repeat' (first | (with_reducible assumption) | (with_reducible exact Blk.new _ _ _) | (exact Blk.newAt (by first | rfl | (simp; done) | omega)) | (with_reducible refine Blk.drewN ?_ _) | (with_reducible refine Blk.drew ?_) | (with_reducible refine Blk.alloc ?_ _) | (with_reducible apply Blk.set_) | (with_reducible refine Blk.far ?_ ?_ _) | rfl | omega | (simp; done) | (simp; omega)))) hb (by first | omega | (simp; done) | (simp; omega))
      have k3_2 : Blk w3 (w1.heap.size) 44 #[.int .u64 0, .int .u64 0] := Blk.below (by (repeat' (first | (with_reducible assumption) | (with_reducible exact Blk.new _ _ _) | (exact Blk.newAt (by first | rfl | (simp; done) | omega)) | (with_reducible refine Blk.drewN ?_ _) | (with_reducible refine Blk.drew ?_) | (with_reducible refine Blk.alloc ?_ _) | (with_reducible apply Blk.set_) | (with_reducible refine Blk.far ?_ ?_ _) | rfl | omega | (simp; done) | (simp; omega)))) hb (by first | omega | (simp; done) | (simp; omega))
      have k3_3 : Blk w3 (w2.heap.size) 44 #[.int .u64 0, .int .u64 0] := Blk.below (by (repeat' (first | (with_reducible assumption) | (with_reducible exact Blk.new _ _ _) | (exact Blk.newAt (by first | rfl | (simp; done) | omega)) | (with_reducible refine Blk.drewN ?_ _) | (with_reducible refine Blk.drew ?_) | (with_reducible refine Blk.alloc ?_ _) | (with_reducible apply Blk.set_) | (with_reducible refine Blk.far ?_ ?_ _) | rfl | omega | (simp; done) | (simp; omega)))) hb (by first | omega | (simp; done) | (simp; omega))
      have c3_0 := k3_0.cell
      have f3_0 := k3_0.frozen
      have l3_0 := k3_0.lt
      have c3_1 := k3_1.cell
      have f3_1 := k3_1.frozen
      have l3_1 := k3_1.lt
      have c3_2 := k3_2.cell
      have f3_2 := k3_2.frozen
      have l3_2 := k3_2.lt
      have c3_3 := k3_3.cell
      have f3_3 := k3_3.frozen
      have l3_3 := k3_3.lt
      clear hb k2_0 c2_0 f2_0 l2_0 k2_1 c2_1 f2_1 l2_1 k2_2 c2_2 f2_2 l2_2 hB2
      go_wp2_with fail
      as_aux_lemma =>
        refine (cmpc m c r3 r4 N3.out N4.out G2.out _).mono ?_
        rintro e w4 ⟨rfl, hb⟩
        have hB4 : Below w.heap.size w w4 := Below.trans (by (repeat' (first | (with_reducible exact Below.refl _ _) | (with_reducible assumption) | (with_reducible refine below_drewN ?_ _) | (with_reducible refine Below.drew ?_) | (with_reducible refine Below.alloc ?_ ?_ _) | (with_reducible refine Below.setCell ?_ ?_ _) | omega | (simp; done) | (simp; omega)))) (hb.mono (by first | omega | (simp; done) | (simp; omega)))
        have k4_0 : Blk w4 (w.heap.size) 44 #[.int .u64 xh, .int .u64 xl] := Blk.below (by (repeat' (first | (with_reducible assumption) | (with_reducible exact Blk.new _ _ _) | (exact Blk.newAt (by first | rfl | (simp; done) | omega)) | (with_reducible refine Blk.drewN ?_ _) | (with_reducible refine Blk.drew ?_) | (with_reducible refine Blk.alloc ?_ _) | (with_reducible apply Blk.set_) | (with_reducible refine Blk.far ?_ ?_ _) | rfl | omega | (simp; done) | (simp; omega)))) hb (by first | omega | (simp; done) | (simp; omega))
        have k4_1 : Blk w4 (w.heap.size + 1) 44 #[.int .u64 yh, .int .u64 yl] := Blk.below (by (repeat' (first | (with_reducible assumption) | (with_reducible exact Blk.new _ _ _) | (exact Blk.newAt (by first | rfl | (simp; done) | omega)) | (with_reducible refine Blk.drewN ?_ _) | (with_reducible refine Blk.drew ?_) | (with_reducible refine Blk.alloc ?_ _) | (with_reducible apply Blk.set_) | (with_reducible refine Blk.far ?_ ?_ _) | rfl | omega | (simp; done) | (simp; omega)))) hb (by first | omega | (simp; done) | (simp; omega))
        have k4_2 : Blk w4 (w1.heap.size) 44 #[.int .u64 0, .int .u64 0] := Blk.below (by (repeat' (first | (with_reducible assumption) | (with_reducible exact Blk.new _ _ _) | (exact Blk.newAt (by first | rfl | (simp; done) | omega)) | (with_reducible refine Blk.drewN ?_ _) | (with_reducible refine Blk.drew ?_) | (with_reducible refine Blk.alloc ?_ _) | (with_reducible apply Blk.set_) | (with_reducible refine Blk.far ?_ ?_ _) | rfl | omega | (simp; done) | (simp; omega)))) hb (by first | omega | (simp; done) | (simp; omega))
        have k4_3 : Blk w4 (w2.heap.size) 44 #[.int .u64 0, .int .u64 0] := Blk.below (by (repeat' (first | (with_reducible assumption) | (with_reducible exact Blk.new _ _ _) | (exact Blk.newAt (by first | rfl | (simp; done) | omega)) | (with_reducible refine Blk.drewN ?_ _) | (with_reducible refine Blk.drew ?_) | (with_reducible refine Blk.alloc ?_ _) | (with_reducible apply Blk.set_) | (with_reducible refine Blk.far ?_ ?_ _) | rfl | omega | (simp; done) | (simp; omega)))) hb (by first | omega | (simp; done) | (simp; omega))
        have c4_0 := k4_0.cell
        have f4_0 := k4_0.frozen
        have l4_0 := k4_0.lt
        have c4_1 := k4_1.cell
        have f4_1 := k4_1.frozen
        have l4_1 := k4_1.lt
        have c4_2 := k4_2.cell
        have f4_2 := k4_2.frozen
        have l4_2 := k4_2.lt
        have c4_3 := k4_3.cell
        have f4_3 := k4_3.frozen
        have l4_3 := k4_3.lt
        clear hb k3_0 c3_0 f3_0 l3_0 k3_1 c3_1 f3_1 l3_1 k3_2 c3_2 f3_2 l3_2 k3_3 c3_3 f3_3 l3_3 hB3
        go_wp2_with fail
        as_aux_lemma =>
          refine (awake1 _).mono ?_
          rintro e w6 ⟨rfl, hb⟩
          have hB6 : Below w.heap.size w w6 := hB4.trans (hb.mono hB4.size)
          go_wp2_with fail
          go_ret
          exact ⟨rfl, hB6⟩
end Go.Proofs.Ytgbkanbahclnhaa
