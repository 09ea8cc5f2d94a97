/- A walk: heliographlaw22.ViewMeets returns true. -/
import Derived.Test.YtcpfpefbpeidpaaView
import Derived.Test.YtcpfpefbpeidpaaTame
import Derived.Deep.DeepCutAuto
namespace Go.Proofs.Ytcpfpefbpeidpaa
open Go.RowKit

set_option maxRecDepth 100000 in
set_option maxHeartbeats 1000000 in
theorem awake22 (w : World) : Calls Try.prog 12 #[] w fun e w' => e = .returned (.bool true) ∧ Below w.heap.size w w' := by
  go_enter Try.func12, Try.ntmps12
  go_wp2_with fail
  refine (pixel_yes _ _ _ _ _ _ 4 _ _ 0 0 _ (by decide) (by decide) (by decide) (by decide) (by decide) (by decide) (by decide) (by decide) (by decide) (by decide) (by decide) (by decide) (by decide) (by decide) (by decide) (by decide) (by decide) (by decide) (by decide) (by decide) (by decide) (by decide) (by decide) (by decide) (by decide) (by decide)).mono ?_
  rintro e w1 ⟨rfl, hb⟩
  obtain ⟨hc, hf⟩ := bcell hb
  have hz1 : w.heap.size < w1.heap.size := by have := hb.size; simp at this; omega
  have hB1 : Below w.heap.size w w1 := ((Below.refl _ _).alloc (Nat.le_refl _) _).trans (hb.mono (by simp))
  clear hb
  go_wp2_with fail
  refine (pixel_off _).mono ?_
  rintro e w2 ⟨rfl, hb⟩
  obtain ⟨hc2, hf2⟩ := bcell hb
  have hz2 : w1.heap.size < w2.heap.size := by have := hb.size; simp at this; omega
  have hz3 : w.heap.size < w2.heap.size := by omega
  have hB2 : Below w.heap.size w w2 := (hB1.alloc (by omega) _).trans (hb.mono (by simp; omega))
  clear hb
  go_wp2_with fail
  refine (viewok_yes _ _ _ _ _ _ 4 _ (by decide) (by decide) (by decide) (by decide) (by decide) (by decide) (by decide) (by decide) (by decide) (by decide) (by decide) (by decide) (by decide) (by decide) (by decide) (by decide)).mono ?_
  rintro e w3 ⟨rfl, hb⟩
  obtain ⟨hc4, hf4⟩ := bcell hb
  have hz4 : w2.heap.size < w3.heap.size := by have := hb.size; simp at this; omega
  have hz5 : w1.heap.size < w3.heap.size := by omega
  have hz6 : w.heap.size < w3.heap.size := by omega
  have hB3 : Below w.heap.size w w3 := (hB2.alloc (by omega) _).trans (hb.mono (by simp; omega))
  clear hb
  go_wp2_with fail
  refine (viewok_none _).mono ?_
  rintro e w4 ⟨rfl, hb⟩
  obtain ⟨hc5, hf5⟩ := bcell hb
  have hz7 : w3.heap.size ≤ w4.heap.size := hb.size
  have hz8 : w1.heap.size < w4.heap.size := by omega
  have hz9 : w.heap.size < w4.heap.size := by omega
  have hB4 : Below w.heap.size w w4 := hB3.trans (hb.mono (by omega))
  clear hb
  go_wp2_with fail
  refine (cells_two _).mono ?_
  rintro e w5 ⟨rfl, hb⟩
  have hB5 : Below w.heap.size w w5 := hB4.trans (hb.mono (by omega))
  have hz10 : w.heap.size ≤ w5.heap.size := hB5.size
  clear hb
  go_wp2_with fail
  refine (cells_none _).mono ?_
  rintro e w6 ⟨rfl, hb⟩
  have hB6 : Below w.heap.size w w6 := hB5.trans (hb.mono (by omega))
  clear hb
  go_wp2_with fail
  go_ret
  exact ⟨rfl, hB6⟩

/-- What Tame's view gives with numbers for the products that the law reckons. -/
theorem prod_bd (x P : Int) (h0 : 0 ≤ x) (h1 : x ≤ 8) (p0 : 1 ≤ P) (p1 : P ≤ 8000000) : 0 ≤ x * P ∧ x * P ≤ 64000000 := by
  constructor
  · exact Int.mul_nonneg h0 (by omega)
  · calc x * P ≤ 8 * P := Int.mul_le_mul_of_nonneg_right h1 (by omega)
      _ ≤ 64000000 := by omega
theorem prod_gap (x p P : Int) (p0 : 1 ≤ P) (h : x + 2 ≤ p) : x * P + P < p * P := by
  have : (x + 2) * P ≤ p * P := Int.mul_le_mul_of_nonneg_right h (by omega)
  have e : (x + 2) * P = x * P + 2 * P := by rw [Int.add_mul]
  omega


/-- How two pixels lie to each other. -/
theorem lie (x y p q H P : Int) (p0 : 1 ≤ P) :
    (x * P + P < p * P) ∨ (p * P + P < x * P) ∨ (x * P + P = p * P) ∨ (p * P + P = x * P) ∨
    (x = p ∧ (((H - 1 - y) * P + P < (H - 1 - q) * P) ∨ ((H - 1 - q) * P + P < (H - 1 - y) * P) ∨ ((H - 1 - y) * P + P = (H - 1 - q) * P) ∨ ((H - 1 - q) * P + P = (H - 1 - y) * P) ∨ y = q)) := by
  have next (a b : Int) (h : b = a + 1) : a * P + P = b * P := by rw [h, Int.add_mul, Int.one_mul]
  have far (a b : Int) (h : a + 2 ≤ b) : a * P + P < b * P := prod_gap a b P p0 h
  by_cases h1 : x + 2 ≤ p
  · exact .inl (far _ _ h1)
  by_cases h2 : p + 2 ≤ x
  · exact .inr (.inl (far _ _ h2))
  by_cases h3 : p = x + 1
  · exact .inr (.inr (.inl (next _ _ h3)))
  by_cases h4 : x = p + 1
  · exact .inr (.inr (.inr (.inl (next _ _ h4))))
  refine .inr (.inr (.inr (.inr ⟨by omega, ?_⟩)))
  by_cases h5 : q + 2 ≤ y
  · exact .inl (far _ _ (by omega))
  by_cases h6 : y + 2 ≤ q
  · exact .inr (.inl (far _ _ (by omega)))
  by_cases h7 : y = q + 1
  · exact .inr (.inr (.inl (next _ _ (by omega))))
  by_cases h8 : q = y + 1
  · exact .inr (.inr (.inr (.inl (next _ _ (by omega)))))
  exact .inr (.inr (.inr (.inr (by omega))))

set_option maxRecDepth 100000 in
set_option maxHeartbeats 2000000 in
theorem meets (X0 Y0 P0 W0 H0 D0 x0 y0 p0 q0 : Int) (w : World) :
    Calls Try.prog 3 #[viewOf X0 Y0 P0 W0 H0 D0, .int .i64 x0, .int .i64 y0, .int .i64 p0, .int .i64 q0] w fun e w' => e = .returned (.bool true) ∧ Below w.heap.size w w' := by
  unfold viewOf
  have em1 := mask255 x0
  have em2 := mask255 y0
  have em3 := mask255 p0
  have em4 := mask255 q0
  go_enter Try.func3, Try.ntmps3
  go_wp2_with fail
  refine (tame _ _ _ _ _ _ _).mono ?_
  rintro e w1 ⟨X, Y, P, W, H, D, k, hf, rfl, hb⟩
  have hB1 : Below w.heap.size w w1 := ((Below.refl _ _).alloc (Nat.le_refl _) _).trans (hb.mono (by simp))
  have k1_0 : Blk w1 w.heap.size 23 #[.int .i64 X0, .int .i64 Y0, .int .i64 P0, .int .i64 W0, .int .i64 H0, .int .i64 D0] := Blk.below (Blk.new _ _ _) hb (by simp)
  have c1_0 := k1_0.cell
  have f1_0 := k1_0.frozen
  have l1_0 := k1_0.lt
  clear hb
  obtain ⟨x1, x2, y1, y2, p1, p2, wd1, wd2, h1, h2, d, m⟩ := hf
  obtain ⟨x, ex⟩ : ∃ x, x0 % 256 % W = x := ⟨_, rfl⟩
  obtain ⟨y, ey⟩ : ∃ y, y0 % 256 % H = y := ⟨_, rfl⟩
  obtain ⟨p, ep⟩ : ∃ p, p0 % 256 % W = p := ⟨_, rfl⟩
  obtain ⟨q, eq⟩ : ∃ q, q0 % 256 % H = q := ⟨_, rfl⟩
  obtain ⟨bx, bx'⟩ : 0 ≤ x ∧ x < W := by rw [← ex]; exact ⟨Int.emod_nonneg _ (by omega), Int.emod_lt_of_pos _ (by omega)⟩
  obtain ⟨cy, cy'⟩ : 0 ≤ y ∧ y < H := by rw [← ey]; exact ⟨Int.emod_nonneg _ (by omega), Int.emod_lt_of_pos _ (by omega)⟩
  obtain ⟨bp, bp'⟩ : 0 ≤ p ∧ p < W := by rw [← ep]; exact ⟨Int.emod_nonneg _ (by omega), Int.emod_lt_of_pos _ (by omega)⟩
  obtain ⟨bq, bq'⟩ : 0 ≤ q ∧ q < H := by rw [← eq]; exact ⟨Int.emod_nonneg _ (by omega), Int.emod_lt_of_pos _ (by omega)⟩
  unfold viewOf
  have ze : (W == 0) = false := by simp; omega
  have zh : (H == 0) = false := by simp; omega
  have hlie := lie x y p q H P p1
  have edx : (p - x) * P = p * P - x * P := Int.sub_mul _ _ _
  have edy : (q - y) * P = (H - 1 - y) * P - (H - 1 - q) * P := by rw [← Int.sub_mul]; congr 1; omega
  have eW : (W - 1) * P + P = W * P := by rw [Int.sub_mul]; omega
  have eH : (H - 1 - 0) * P + P = H * P := by rw [Int.sub_zero, Int.sub_mul]; omega
  have b1 := prod_bd x P bx (by omega) p1 p2
  have b2 := prod_bd p P bp (by omega) p1 p2
  have b3 := prod_bd (H - 1 - y) P (by omega) (by omega) p1 p2
  have b4 := prod_bd (H - 1 - q) P (by omega) (by omega) p1 p2
  have b5 := prod_bd (W - 1) P (by omega) (by omega) p1 p2
  have b6 := prod_bd (H - 1 - 0) P (by omega) (by omega) p1 p2
  have b7 := prod_bd W P (by omega) (by omega) p1 p2
  have b8 := prod_bd H P (by omega) (by omega) p1 p2
  have e0 : (H - 1 - (H - 1)) * P = 0 := by rw [Int.sub_self, Int.zero_mul]
  obtain ⟨A, eA⟩ : ∃ A, x * P = A := ⟨_, rfl⟩
  obtain ⟨B, eB⟩ : ∃ A, (H - 1 - y) * P = A := ⟨_, rfl⟩
  obtain ⟨C, eC⟩ : ∃ A, p * P = A := ⟨_, rfl⟩
  obtain ⟨E, eE⟩ : ∃ A, (H - 1 - q) * P = A := ⟨_, rfl⟩
  obtain ⟨F, eF⟩ : ∃ A, (W - 1) * P = A := ⟨_, rfl⟩
  obtain ⟨G, eG⟩ : ∃ A, (H - 1 - 0) * P = A := ⟨_, rfl⟩
  obtain ⟨I, eI⟩ : ∃ A, W * P = A := ⟨_, rfl⟩
  obtain ⟨J, eJ⟩ : ∃ A, H * P = A := ⟨_, rfl⟩
  rw [eA, eC, eB, eE] at hlie
  rw [eA, eC] at edx
  rw [eB, eE] at edy
  rw [eF, eI] at eW
  rw [eG, eJ] at eH
  rw [eA] at b1; rw [eC] at b2; rw [eB] at b3; rw [eE] at b4; rw [eF] at b5; rw [eG] at b6; rw [eI] at b7; rw [eJ] at b8
  obtain ⟨b1, c1⟩ := b1
  obtain ⟨b2, c2⟩ := b2
  obtain ⟨b3, c3⟩ := b3
  obtain ⟨b4, c4⟩ := b4
  obtain ⟨b5, c5⟩ := b5
  obtain ⟨b6, c6⟩ := b6
  obtain ⟨b7, c7⟩ := b7
  obtain ⟨b8, c8⟩ := b8
  have fW1 : F + P ≤ I := by omega
  have fW2 : I ≤ F + P := by omega
  have fH1 : G + P ≤ J := by omega
  have fH2 : J ≤ G + P := by omega
  clear eW eH
  have HX : Hid (x = p → A = C) := Lib.hid (fun h => by rw [← eA, ← eC, h])
  have HY : Hid (y = q → B = E) := Lib.hid (fun h => by rw [← eB, ← eE, h])
  have HL := Lib.hid hlie
  have hd := Lib.hid d
  have hm := Lib.hid m
  have HF := Lib.hid eF
  have HG := Lib.hid eG
  have HZ := Lib.hid e0
  have HA := Lib.hid eA
  have HB := Lib.hid eB
  have HC := Lib.hid eC
  have HE := Lib.hid eE
  clear hlie d m eF eG e0 eA eB eC eE
  have k1 : -300000000 ≤ X := by omega
  have k2 : X ≤ 300000000 := by omega
  have k3 : -300000000 ≤ Y := by omega
  have k4 : Y ≤ 300000000 := by omega
  have k5 : 0 ≤ W - 1 := by omega
  have k6 : 0 ≤ H - 1 := by omega
  go_wp2_with fail
  go_quiet (fail)
  go_wp2_with fail
  refine (pixel_yes X Y P W H D k x y A B _ k1 k2 k3 k4 p1 p2 wd1 wd2 h1 h2 hd.out hm.out (by rw [eI]; exact b7) (by rw [eI]; exact c7) (by rw [eJ]; exact b8) (by rw [eJ]; exact c8) bx bx' cy cy' HA.out HB.out b1 c1 b3 c3).mono ?_
  rintro e w2 ⟨rfl, hb⟩
  have hB2 : Below w.heap.size w w2 := Below.trans (by (repeat' (first | (with_reducible exact Below.refl _ _) | (with_reducible assumption) | (with_reducible refine below_drewN ?_ _) | (with_reducible refine Below.drew ?_) | (with_reducible refine Below.alloc ?_ ?_ _) | (with_reducible refine Below.setCell ?_ ?_ _) | omega | (simp; done) | (simp; omega)))) (hb.mono (by first | omega | (simp; done) | (simp; omega)))
  have k2_0 : Blk w2 (w.heap.size) 23 #[.int .i64 X, .int .i64 Y, .int .i64 P, .int .i64 W, .int .i64 H, .int .i64 D] := Blk.below (by (repeat' (first | (with_reducible assumption) | (with_reducible exact Blk.new _ _ _) | (with_reducible refine Blk.drewN ?_ _) | (with_reducible refine Blk.drew ?_) | (with_reducible refine Blk.alloc ?_ _) | (with_reducible apply Blk.set_) | (with_reducible refine Blk.far ?_ ?_ _) | rfl | omega | (simp; done) | (simp; omega)))) hb (by first | omega | (simp; done) | (simp; omega))
  have c2_0 := k2_0.cell
  have f2_0 := k2_0.frozen
  have l2_0 := k2_0.lt
  clear hb c1_0 f1_0 l1_0 k1_0 em1 em2 em3 em4 ze zh
  go_wp2_with fail
  refine (pixel_yes X Y P W H D k p q C E _ k1 k2 k3 k4 p1 p2 wd1 wd2 h1 h2 hd.out hm.out (by rw [eI]; exact b7) (by rw [eI]; exact c7) (by rw [eJ]; exact b8) (by rw [eJ]; exact c8) bp bp' bq bq' HC.out HE.out b2 c2 b4 c4).mono ?_
  rintro e w3 ⟨rfl, hb⟩
  have hB3 : Below w.heap.size w w3 := Below.trans (by (repeat' (first | (with_reducible exact Below.refl _ _) | (with_reducible assumption) | (with_reducible refine below_drewN ?_ _) | (with_reducible refine Below.drew ?_) | (with_reducible refine Below.alloc ?_ ?_ _) | (with_reducible refine Below.setCell ?_ ?_ _) | omega | (simp; done) | (simp; omega)))) (hb.mono (by first | omega | (simp; done) | (simp; omega)))
  have k3_0 : Blk w3 (w.heap.size) 23 #[.int .i64 X, .int .i64 Y, .int .i64 P, .int .i64 W, .int .i64 H, .int .i64 D] := Blk.below (by (repeat' (first | (with_reducible assumption) | (with_reducible exact Blk.new _ _ _) | (with_reducible refine Blk.drewN ?_ _) | (with_reducible refine Blk.drew ?_) | (with_reducible refine Blk.alloc ?_ _) | (with_reducible apply Blk.set_) | (with_reducible refine Blk.far ?_ ?_ _) | rfl | omega | (simp; done) | (simp; omega)))) hb (by first | omega | (simp; done) | (simp; omega))
  have k3_1 : Blk w3 (w2.heap.size) 26 #[.int .i64 (X + A), .int .i64 (Y + B), .int .i64 (X + A + P), .int .i64 (Y + B + P)] := Blk.below (by (repeat' (first | (with_reducible assumption) | (with_reducible exact Blk.new _ _ _) | (with_reducible refine Blk.drewN ?_ _) | (with_reducible refine Blk.drew ?_) | (with_reducible refine Blk.alloc ?_ _) | (with_reducible apply Blk.set_) | (with_reducible refine Blk.far ?_ ?_ _) | rfl | omega | (simp; done) | (simp; omega)))) hb (by first | omega | (simp; done) | (simp; omega))
  have c3_0 := k3_0.cell
  have f3_0 := k3_0.frozen
  have l3_0 := k3_0.lt
  have c3_1 := k3_1.cell
  have f3_1 := k3_1.frozen
  have l3_1 := k3_1.lt
  clear hb c2_0 f2_0 l2_0 k2_0
  go_upto_region 7 with (fail)
  go_cut [15] (fun s15 wx => s15 = .bool true ∧ Below w.heap.size w wx ∧ Blk wx w.heap.size 23 #[.int .i64 X, .int .i64 Y, .int .i64 P, .int .i64 W, .int .i64 H, .int .i64 D])
  case first =>
    go_wp2_with fail
    refine (apart_any _ _ _ _ _ _ _ _ _).mono ?_
    rintro e w4 ⟨v, rfl, hv, hb⟩
    have hB4 : Below w.heap.size w w4 := Below.trans (by (repeat' (first | (with_reducible exact Below.refl _ _) | (with_reducible assumption) | (with_reducible refine below_drewN ?_ _) | (with_reducible refine Below.drew ?_) | (with_reducible refine Below.alloc ?_ ?_ _) | (with_reducible refine Below.setCell ?_ ?_ _) | omega | (simp; done) | (simp; omega)))) (hb.mono (by first | omega | (simp; done) | (simp; omega)))
    have k4_0 : Blk w4 (w.heap.size) 23 #[.int .i64 X, .int .i64 Y, .int .i64 P, .int .i64 W, .int .i64 H, .int .i64 D] := Blk.below (by (repeat' (first | (with_reducible assumption) | (with_reducible exact Blk.new _ _ _) | (with_reducible refine Blk.drewN ?_ _) | (with_reducible refine Blk.drew ?_) | (with_reducible refine Blk.alloc ?_ _) | (with_reducible apply Blk.set_) | (with_reducible refine Blk.far ?_ ?_ _) | rfl | omega | (simp; done) | (simp; omega)))) hb (by first | omega | (simp; done) | (simp; omega))
    have k4_1 : Blk w4 (w2.heap.size) 26 #[.int .i64 (X + A), .int .i64 (Y + B), .int .i64 (X + A + P), .int .i64 (Y + B + P)] := Blk.below (by (repeat' (first | (with_reducible assumption) | (with_reducible exact Blk.new _ _ _) | (with_reducible refine Blk.drewN ?_ _) | (with_reducible refine Blk.drew ?_) | (with_reducible refine Blk.alloc ?_ _) | (with_reducible apply Blk.set_) | (with_reducible refine Blk.far ?_ ?_ _) | rfl | omega | (simp; done) | (simp; omega)))) hb (by first | omega | (simp; done) | (simp; omega))
    have k4_2 : Blk w4 (w3.heap.size) 26 #[.int .i64 (X + C), .int .i64 (Y + E), .int .i64 (X + C + P), .int .i64 (Y + E + P)] := Blk.below (by (repeat' (first | (with_reducible assumption) | (with_reducible exact Blk.new _ _ _) | (with_reducible refine Blk.drewN ?_ _) | (with_reducible refine Blk.drew ?_) | (with_reducible refine Blk.alloc ?_ _) | (with_reducible apply Blk.set_) | (with_reducible refine Blk.far ?_ ?_ _) | rfl | omega | (simp; done) | (simp; omega)))) hb (by first | omega | (simp; done) | (simp; omega))
    have c4_0 := k4_0.cell
    have f4_0 := k4_0.frozen
    have l4_0 := k4_0.lt
    have c4_1 := k4_1.cell
    have f4_1 := k4_1.frozen
    have l4_1 := k4_1.lt
    have c4_2 := k4_2.cell
    have f4_2 := k4_2.frozen
    have l4_2 := k4_2.lt
    clear hb c3_0 f3_0 l3_0 k3_0 c3_1 f3_1 l3_1 k3_1 edx edy
    have HV := Lib.hid hv
    clear hv
    go_wp2_with fail
    all_goals
      go_meet
      refine ⟨?_, hB4, k4_0⟩
      first
        | rfl
        | (have T := HL.out
           have TX := HX.out
           have TY := HY.out
           have TV := HV.out (by simpa using (by assumption : ¬ v = true))
           refine congrArg Value.bool ?_
           simp only [Bool.or_eq_true, beq_iff_eq]
           omega)
  case rest =>
    obtain ⟨rfl, hBc, kc⟩ := hcut
    have cc := kc.cell
    have fc := kc.frozen
    have lc := kc.lt
    clear c3_0 f3_0 l3_0 k3_0 c3_1 f3_1 l3_1 k3_1 HL HX HY HA HB HC HE edx edy hB3 hB2 hB1
    go_wp2_with fail
    refine (pixel_yes X Y P W H D k 0 (H - 1) 0 0 _ k1 k2 k3 k4 p1 p2 wd1 wd2 h1 h2 hd.out hm.out (by rw [eI]; exact b7) (by rw [eI]; exact c7) (by rw [eJ]; exact b8) (by rw [eJ]; exact c8) (by omega) (by omega) k6 (by omega) (Int.zero_mul _) HZ.out (by omega) (by omega) (by omega) (by omega)).mono ?_
    rintro e w5 ⟨rfl, hb⟩
    have hB5 : Below w.heap.size w w5 := Below.trans (by (repeat' (first | (with_reducible exact Below.refl _ _) | (with_reducible assumption) | (with_reducible refine below_drewN ?_ _) | (with_reducible refine Below.drew ?_) | (with_reducible refine Below.alloc ?_ ?_ _) | (with_reducible refine Below.setCell ?_ ?_ _) | omega | (simp; done) | (simp; omega)))) (hb.mono (by first | omega | (simp; done) | (simp; omega)))
    have k5_0 : Blk w5 (w.heap.size) 23 #[.int .i64 X, .int .i64 Y, .int .i64 P, .int .i64 W, .int .i64 H, .int .i64 D] := Blk.below (by (repeat' (first | (with_reducible assumption) | (with_reducible exact Blk.new _ _ _) | (with_reducible refine Blk.drewN ?_ _) | (with_reducible refine Blk.drew ?_) | (with_reducible refine Blk.alloc ?_ _) | (with_reducible apply Blk.set_) | (with_reducible refine Blk.far ?_ ?_ _) | rfl | omega | (simp; done) | (simp; omega)))) hb (by first | omega | (simp; done) | (simp; omega))
    have c5_0 := k5_0.cell
    have f5_0 := k5_0.frozen
    have l5_0 := k5_0.lt
    clear hb cc fc lc kc hBc
    go_wp2_with fail
    refine (pixel_yes X Y P W H D k (W - 1) 0 F G _ k1 k2 k3 k4 p1 p2 wd1 wd2 h1 h2 hd.out hm.out (by rw [eI]; exact b7) (by rw [eI]; exact c7) (by rw [eJ]; exact b8) (by rw [eJ]; exact c8) k5 (by omega) (by omega) (by omega) HF.out HG.out b5 c5 b6 c6).mono ?_
    rintro e w6 ⟨rfl, hb⟩
    have hB6 : Below w.heap.size w w6 := Below.trans (by (repeat' (first | (with_reducible exact Below.refl _ _) | (with_reducible assumption) | (with_reducible refine below_drewN ?_ _) | (with_reducible refine Below.drew ?_) | (with_reducible refine Below.alloc ?_ ?_ _) | (with_reducible refine Below.setCell ?_ ?_ _) | omega | (simp; done) | (simp; omega)))) (hb.mono (by first | omega | (simp; done) | (simp; omega)))
    have k6_0 : Blk w6 (w.heap.size) 23 #[.int .i64 X, .int .i64 Y, .int .i64 P, .int .i64 W, .int .i64 H, .int .i64 D] := Blk.below (by (repeat' (first | (with_reducible assumption) | (with_reducible exact Blk.new _ _ _) | (with_reducible refine Blk.drewN ?_ _) | (with_reducible refine Blk.drew ?_) | (with_reducible refine Blk.alloc ?_ _) | (with_reducible apply Blk.set_) | (with_reducible refine Blk.far ?_ ?_ _) | rfl | omega | (simp; done) | (simp; omega)))) hb (by first | omega | (simp; done) | (simp; omega))
    have k6_1 : Blk w6 (w5.heap.size) 26 #[.int .i64 X, .int .i64 Y, .int .i64 (X + P), .int .i64 (Y + P)] := Blk.below (by (repeat' (first | (with_reducible assumption) | (with_reducible exact Blk.new _ _ _) | (with_reducible refine Blk.drewN ?_ _) | (with_reducible refine Blk.drew ?_) | (with_reducible refine Blk.alloc ?_ _) | (with_reducible apply Blk.set_) | (with_reducible refine Blk.far ?_ ?_ _) | rfl | omega | (simp; done) | (simp; omega)))) hb (by first | omega | (simp; done) | (simp; omega))
    have c6_0 := k6_0.cell
    have f6_0 := k6_0.frozen
    have l6_0 := k6_0.lt
    have c6_1 := k6_1.cell
    have f6_1 := k6_1.frozen
    have l6_1 := k6_1.lt
    clear hb c5_0 f5_0 l5_0 k5_0 hB5
    go_wp2_with fail
    refine (awake22 _).mono ?_
    rintro e w7 ⟨rfl, hb⟩
    have hB7 : Below w.heap.size w w7 := Below.trans (by (repeat' (first | (with_reducible exact Below.refl _ _) | (with_reducible assumption) | (with_reducible refine below_drewN ?_ _) | (with_reducible refine Below.drew ?_) | (with_reducible refine Below.alloc ?_ ?_ _) | (with_reducible refine Below.setCell ?_ ?_ _) | omega | (simp; done) | (simp; omega)))) (hb.mono (by first | omega | (simp; done) | (simp; omega)))
    go_wp2_with fail
    go_ret
    exact ⟨rfl, hB7⟩
end Go.Proofs.Ytcpfpefbpeidpaa

