/- A walk: heliographlaw24.MixRows returns true. -/
import Derived.Test.YtcpfpefbpeidpaaMixOver
import Derived.Test.YtcpfpefbpeidpaaMixB
import Derived.Test.YtcpfpefbpeidpaaMixD
import Derived.Deep.DeepCutAuto
import Derived.Deep.RegionWith
import Derived.Deep.RegionHeld3
import Derived.Lib.QuietBelow
namespace Go.Proofs.Ytcpfpefbpeidpaa
open Go.RowKit Go.Sort
set_option linter.unusedVariables false

/-- What a round leaves: the tone in its block, how many rounds, where it reads. -/
def Rowed (B g : Nat) (s : Bool) (w : World) (n i : Value) (wx : World) : Prop := ∃ (k : Nat) (lo hi : Int), n = .int .i64 k ∧ i = .int .i64 ((3 * k : Nat) : Int) ∧ k ≤ 30 ∧ 0 ≤ lo ∧ lo ≤ hi ∧ hi ≤ 16711680 ∧ (s = true → hi - lo ≤ k) ∧
  Blk wx g 34 #[.int .i64 lo, .int .i64 hi] ∧ Below B w wx
def Colour (B g : Nat) (w : World) (lo hi : Int) (c al : Value) (wx : World) : Prop := ∃ (C A : Int), c = .int .i64 C ∧ al = .int .i64 A ∧ 0 ≤ C ∧ C ≤ 255 ∧ 0 ≤ A ∧ A ≤ 255 ∧
  Blk wx g 34 #[.int .i64 lo, .int .i64 hi] ∧ Below B w wx
def Cover (B g : Nat) (w : World) (lo hi : Int) (v : Value) (wx : World) : Prop := ∃ (h : Nat) (vl vh : Int), v = .pointer (some ⟨h, 0, none⟩) ∧ 0 ≤ vl ∧ vl ≤ vh ∧ vh ≤ 64 ∧ g < h ∧
  Blk wx g 34 #[.int .i64 lo, .int .i64 hi] ∧ Blk wx h 38 #[.int .i64 vl, .int .i64 vh] ∧ Below B w wx

theorem blk_pre {w wq : World} {cs : Array Value} (hb : Below (w.alloc (.cells cs 38)).drew.heap.size (w.alloc (.cells cs 38)).drew wq) : Blk wq w.heap.size 38 cs := by
  refine Blk.below (Blk.drew ?_) hb ?_
  · exact Blk.new _ _ _
  · simp

set_option maxRecDepth 100000 in
set_option maxHeartbeats 10000000 in
theorem rows (A : Option Addr) (len cap : Nat) (s : Bool) (w : World) (hlen : (len : Int) ≤ 9223372036854775807)
    (hA : ∀ j, j < len → ∃ ad z, A = some ad ∧ ad.block < w.heap.size ∧ w.cell? (ad.add j) = some (.int .i64 z)) :
    Calls Try.prog 4 #[.slice A len cap, .bool s] w fun e w' => e = .returned (.bool true) ∧ Below w.heap.size w w' := by
  have hAH := Lib.hid hA
  clear hA
  obtain ⟨m, em⟩ : ∃ m, bits .and .i64 (len : Int) 255 = m := ⟨_, rfl⟩
  obtain ⟨u0, u1⟩ : 0 ≤ m ∧ m ≤ 255 := by rw [mask255] at em; omega
  have st := fun w => start m w
  rw [clamp_in m u0 u1] at st
  have ST := Lib.hid st
  clear st
  go_enter Try.func4, Try.ntmps4
  go_wp2_with fail
  refine (ST.out _).mono ?_
  rintro e w1 ⟨rfl, hb⟩
  have hB1 : Below w.heap.size w w1 := Below.trans (by (repeat' (first | (with_reducible exact Below.refl _ _) | (with_reducible assumption) | (with_reducible refine below_drewN ?_ _) | (with_reducible refine Below.drew ?_) | (with_reducible refine Below.alloc ?_ ?_ _) | (with_reducible refine Below.setCell ?_ ?_ _) | omega | (simp; done) | (simp; omega)))) (hb.mono (by first | omega | (simp; done) | (simp; omega)))
  have l1 := hB1.size
  clear hb
  go_wp2_with fail
  go_loopw [6, 7] (Rowed w.heap.size w1.heap.size s w) (fun _ i _ => 100 - (intOf i).toNat)
  case atStart =>
    refine ⟨0, 65536 * m, 65536 * m, rfl, rfl, by omega, by omega, by omega, by omega, fun _ => by omega, ?_, ?_⟩
    · (repeat' (first | (with_reducible assumption) | (with_reducible exact Blk.new _ _ _) | (exact Blk.newAt (by first | rfl | (simp; done) | omega)) | (with_reducible refine Blk.drewN ?_ _) | (with_reducible refine Blk.drew ?_) | (with_reducible refine Blk.alloc ?_ _) | (with_reducible apply Blk.set_) | (with_reducible refine Blk.far ?_ ?_ _) | rfl | omega | (simp; done) | (simp; omega)))
    · (repeat' (first | (with_reducible exact Below.refl _ _) | (with_reducible assumption) | (with_reducible refine below_drewN ?_ _) | (with_reducible refine Below.drew ?_) | (with_reducible refine Below.alloc ?_ ?_ _) | (with_reducible refine Below.setCell ?_ ?_ _) | omega | (simp; done) | (simp; omega)))
  case round =>
  clear ST em
  obtain ⟨k, lo, hi, rfl, rfl, hk, t0, t1, t2, hs, k0_0, hB0⟩ := hrel
  have hS := Lib.hid hs
  clear hs
  have c0_0 := k0_0.cell
  have f0_0 := k0_0.frozen
  have l0_0 := k0_0.lt
  have l0 := hB0.size
  obtain ⟨j, ej⟩ : ∃ j, 3 * k = j := ⟨_, rfl⟩
  rw [ej]
  by_cases h1 : (j : Int) + 2 < len
  · by_cases h2 : (j : Int) < 90
    · have d1 : decide ((j : Int) + 2 < len) = true := by simpa using h1
      have d2 : decide ((j : Int) < 90) = true := by simpa using h2
      have h3 : (j : Int) < len := by omega
      have h4 : (j : Int) + 1 < len := by omega
      obtain ⟨ad, z0, rfl, hblk, hz0⟩ := hAH.out j (by omega)
      have hz1 : ∃ z1 : Int, w.cell? ⟨ad.block, ad.off + (j + 1), none⟩ = some (.int .i64 z1) := by
        obtain ⟨ad', z, e, _, h⟩ := hAH.out (j + 1) (by omega)
        obtain rfl : ad = ad' := by simpa using e
        exact ⟨z, h⟩
      have hz2 : ∃ z1 : Int, w.cell? ⟨ad.block, ad.off + (j + 1 + 1), none⟩ = some (.int .i64 z1) := by
        obtain ⟨ad', z, e, _, h⟩ := hAH.out (j + 1 + 1) (by omega)
        obtain rfl : ad = ad' := by simpa using e
        exact ⟨z, h⟩
      obtain ⟨z1, hz1⟩ := hz1
      obtain ⟨z2, hz2⟩ := hz2
      clear hAH
      have mm := mask255
      have b0 : (ad.add j).block < w.heap.size := by unfold Addr.add; split <;> exact hblk
      have q0 := (hB0.cell b0).trans hz0
      have q1 := (hB0.cell (by exact hblk)).trans hz1
      have q2 := (hB0.cell (by exact hblk)).trans hz2
      go_upto_region 6 with (fail)
      go_cut [8, 9] (fun s8 s9 wx => Colour w.heap.size w1.heap.size w lo hi s8 s9 wx ∧ wx.cell? ⟨ad.block, ad.off + (j + 1), none⟩ = some (.int .i64 z1) ∧ wx.cell? ⟨ad.block, ad.off + (j + 1 + 1), none⟩ = some (.int .i64 z2))
      case first =>
        go_quiet (fail)
        go_wp2_with fail
        go_meet
        refine ⟨⟨_, _, rfl, rfl, ?_, ?_, ?_, ?_, ?_, ?_⟩, ?_, ?_⟩
        · omega
        · omega
        · omega
        · omega
        · (repeat' (first | (with_reducible assumption) | (with_reducible exact Blk.new _ _ _) | (exact Blk.newAt (by first | rfl | (simp; done) | omega)) | (with_reducible refine Blk.drewN ?_ _) | (with_reducible refine Blk.drew ?_) | (with_reducible refine Blk.alloc ?_ _) | (with_reducible apply Blk.set_) | (with_reducible refine Blk.far ?_ ?_ _) | rfl | omega | (simp; done) | (simp; omega)))
        · (repeat' (first | (with_reducible exact Below.refl _ _) | (with_reducible assumption) | (with_reducible refine below_drewN ?_ _) | (with_reducible refine Below.drew ?_) | (with_reducible refine Below.alloc ?_ ?_ _) | (with_reducible refine Below.setCell ?_ ?_ _) | omega | (simp; done) | (simp; omega)))
        · simpa using q1
        · simpa using q2
      case rest =>
      obtain ⟨⟨C, A, rfl, rfl, c0, c1, a0, a1, k2_0, hB2⟩, q1, q2⟩ := hcut
      clear k0_0 c0_0 f0_0 l0_0 hB0 mm q0 b0 hz0
      have l2 := hB2.size
      have l2_0 := k2_0.lt
      go_upto_region 7 with (fail)
      have co := cov z1 z2 64 (by omega) (by omega)
      have CO := Lib.hid co
      have e5 : 0 ≤ (j : Int) + 1 := by omega
      have e6 : 0 ≤ (j : Int) + 2 := by omega
      have e7 : ((j : Int) + 1).toNat = j + 1 := by omega
      have e8 : ((j : Int) + 2).toNat = j + 2 := by omega
      have v1 : IntKind.i64.wrap ((j : Int) + 1) = (j : Int) + 1 := by rw [IntKind.wrap_i64]; omega
      have v2 : IntKind.i64.wrap ((j : Int) + 2) = (j : Int) + 2 := by rw [IntKind.wrap_i64]; omega
      have e9 : j + 1 < len := by omega
      have e10 : j + 2 < len := by omega
      clear co
      go_cut [10] (fun s10 wx => Cover w.heap.size w1.heap.size w lo hi s10 wx)
      case first =>
        go_region_held3 (fun w' => w'.cell? ⟨ad.block, ad.off + (j + 1), none⟩ = some (.int .i64 z1) ∧ w'.cell? ⟨ad.block, ad.off + (j + 1 + 1), none⟩ = some (.int .i64 z2) ∧ Blk w' w1.heap.size 34 #[.int .i64 lo, .int .i64 hi] ∧ Below w.heap.size w w' ∧ w.heap.size ≤ w1.heap.size)
          ((refine ⟨(Below.cell (B := w.heap.size) (w := w) ?_ (by exact hblk)).trans hz1, (Below.cell (B := w.heap.size) (w := w) ?_ (by exact hblk)).trans hz2, ?_, ?_, l1⟩; (iterate 2 ((repeat' (first | (with_reducible exact Below.refl _ _) | (with_reducible assumption) | (with_reducible refine below_drewN ?_ _) | (with_reducible refine Below.drew ?_) | (with_reducible refine Below.alloc ?_ ?_ _) | (with_reducible refine Below.setCell ?_ ?_ _) | omega | (simp; done) | (simp; omega))))); ((repeat' (first | (with_reducible assumption) | (with_reducible exact Blk.new _ _ _) | (exact Blk.newAt (by first | rfl | (simp; done) | omega)) | (with_reducible refine Blk.drewN ?_ _) | (with_reducible refine Blk.drew ?_) | (with_reducible refine Blk.alloc ?_ _) | (with_reducible apply Blk.set_) | (with_reducible refine Blk.far ?_ ?_ _) | rfl | omega | (simp; done) | (simp; omega)))); ((repeat' (first | (with_reducible exact Below.refl _ _) | (with_reducible assumption) | (with_reducible refine below_drewN ?_ _) | (with_reducible refine Below.drew ?_) | (with_reducible refine Below.alloc ?_ ?_ _) | (with_reducible refine Below.setCell ?_ ?_ _) | omega | (simp; done) | (simp; omega))))))
          (first | (go_at_call 14; refine (CO.out _).mono ?_; rintro e w5 ⟨vl, vh, g0, g1, g2, rfl, hb⟩; have hB5 : Below w.heap.size w w5 := Below.trans (by (repeat' (first | (with_reducible exact Below.refl _ _) | (with_reducible assumption) | (with_reducible refine below_drewN ?_ _) | (with_reducible refine Below.drew ?_) | (with_reducible refine Below.alloc ?_ ?_ _) | (with_reducible refine Below.setCell ?_ ?_ _) | omega | (simp; done) | (simp; omega)))) (hb.mono (by first | omega | (simp; done) | (simp; omega))); have l5 := hB5.size; have hK5 : Blk w5 w1.heap.size 34 #[.int .i64 lo, .int .i64 hi] := Blk.below (by (repeat' (first | (with_reducible assumption) | (with_reducible exact Blk.new _ _ _) | (exact Blk.newAt (by first | rfl | (simp; done) | omega)) | (with_reducible refine Blk.drewN ?_ _) | (with_reducible refine Blk.drew ?_) | (with_reducible refine Blk.alloc ?_ _) | (with_reducible apply Blk.set_) | (with_reducible refine Blk.far ?_ ?_ _) | rfl | omega | (simp; done) | (simp; omega)))) hb (by first | omega | (simp; done) | (simp; omega)); have lk5 := hK5.lt; obtain ⟨hc, hf⟩ := bcell hb; (first | (have hl : wc.heap.size < w5.heap.size := by (have := hb.size; simp at this; omega)) | have hl : wc.heap.size ≤ w5.heap.size := hb.size | skip)))
        all_goals
          go_wp2_with fail
          go_meet
          first
            | exact ⟨w5.heap.size, vl, vh, rfl, g0, g1, g2, lk5, by (repeat' (first | (with_reducible assumption) | (with_reducible exact Blk.new _ _ _) | (exact Blk.newAt (by first | rfl | (simp; done) | omega)) | (with_reducible refine Blk.drewN ?_ _) | (with_reducible refine Blk.drew ?_) | (with_reducible refine Blk.alloc ?_ _) | (with_reducible apply Blk.set_) | (with_reducible refine Blk.far ?_ ?_ _) | rfl | omega | (simp; done) | (simp; omega))), by (repeat' (first | (with_reducible assumption) | (with_reducible exact Blk.new _ _ _) | (exact Blk.newAt (by first | rfl | (simp; done) | omega)) | (with_reducible refine Blk.drewN ?_ _) | (with_reducible refine Blk.drew ?_) | (with_reducible refine Blk.alloc ?_ _) | (with_reducible apply Blk.set_) | (with_reducible refine Blk.far ?_ ?_ _) | rfl | omega | (simp; done) | (simp; omega))), by (repeat' (first | (with_reducible exact Below.refl _ _) | (with_reducible assumption) | (with_reducible refine below_drewN ?_ _) | (with_reducible refine Below.drew ?_) | (with_reducible refine Below.alloc ?_ ?_ _) | (with_reducible refine Below.setCell ?_ ?_ _) | omega | (simp; done) | (simp; omega)))⟩
            | (have hJ := blk_pre hb
               refine ⟨wc.heap.size, vl, vh, rfl, g0, g1, g2, l2_0, ?_, ?_, ?_⟩
               · (repeat' (first | (with_reducible assumption) | (with_reducible exact Blk.new _ _ _) | (exact Blk.newAt (by first | rfl | (simp; done) | omega)) | (with_reducible refine Blk.drewN ?_ _) | (with_reducible refine Blk.drew ?_) | (with_reducible refine Blk.alloc ?_ _) | (with_reducible apply Blk.set_) | (with_reducible refine Blk.far ?_ ?_ _) | rfl | omega | (simp; done) | (simp; omega)))
               · (repeat' (first | (with_reducible assumption) | (with_reducible exact Blk.new _ _ _) | (exact Blk.newAt (by first | rfl | (simp; done) | omega)) | (with_reducible refine Blk.drewN ?_ _) | (with_reducible refine Blk.drew ?_) | (with_reducible refine Blk.alloc ?_ _) | (with_reducible apply Blk.set_) | (with_reducible refine Blk.far ?_ ?_ _) | rfl | omega | (simp; done) | (simp; omega)))
               · (repeat' (first | (with_reducible exact Below.refl _ _) | (with_reducible assumption) | (with_reducible refine below_drewN ?_ _) | (with_reducible refine Below.drew ?_) | (with_reducible refine Below.alloc ?_ ?_ _) | (with_reducible refine Below.setCell ?_ ?_ _) | omega | (simp; done) | (simp; omega))))
      case rest =>
      obtain ⟨h, vl, vh, rfl, g0, g1, g2, gh, k3_0, k3_1, hB3⟩ := hcut
      clear k2_0 hB2 q1 q2 hz1 hz2 CO v1 v2 e5 e6 e7 e8 e9 e10 l2 l2_0
      have c3_0 := k3_0.cell
      have f3_0 := k3_0.frozen
      have l3_0 := k3_0.lt
      have c3_1 := k3_1.cell
      have f3_1 := k3_1.frozen
      have l3_1 := k3_1.lt
      have l3 := hB3.size
      rcases s with _ | _
      · as_aux_lemma =>
          have mu : A * vl ≤ 255 * 64 := Int.mul_le_mul a1 (by omega) (by omega) (by omega)
          have mv : A * vh ≤ 255 * 64 := Int.mul_le_mul a1 (by omega) (by omega) (by omega)
          have mw := Int.mul_nonneg a0 g0
          have mx : A * vl ≤ A * vh := Int.mul_le_mul_of_nonneg_left (by omega) a0
          have hov := fun w => over lo hi C A vl vh 64 t0 t1 t2 c0 c1 a0 a1 (by omega) (by omega) g0 (by omega) (by omega) w
          have L0 := lo_nonneg (255 * 64) (65536 * C) lo (A * vl) (A * vh) (by omega) t0 (by omega) mw mx mv
          have H0 := hi_le (255 * 64) (65536 * C) hi (A * vl) (A * vh) 16711680 (by omega) t2 (by omega) mw mx mv
          have LH := lo_le_hi (255 * 64) (65536 * C) lo hi (A * vl) (A * vh) (by omega) t1 mx mv
          have HW : True := trivial
          have HW0 := Lib.hid HW
          obtain ⟨L, eL⟩ : ∃ L, loOf (255 * 64) (65536 * C) lo (A * vl) (A * vh) = L := ⟨_, rfl⟩
          obtain ⟨H, eH⟩ : ∃ L, hiOf (255 * 64) (65536 * C) hi (A * vl) (A * vh) = L := ⟨_, rfl⟩
          simp only [eL, eH] at hov L0 H0 LH
          have hov' := Lib.hid hov
          have hW := Lib.hid HW
          clear hov eL eH mu mv mw mx HW HW0
          go_wp2_with fail
          refine (hov'.out _).mono ?_
          rintro e w6 ⟨rfl, hb⟩
          have hB6 : Below w.heap.size w w6 := Below.trans (by (repeat' (first | (with_reducible exact Below.refl _ _) | (with_reducible assumption) | (with_reducible refine below_drewN ?_ _) | (with_reducible refine Below.drew ?_) | (with_reducible refine Below.alloc ?_ ?_ _) | (with_reducible refine Below.setCell ?_ ?_ _) | omega | (simp; done) | (simp; omega)))) (hb.mono (by first | omega | (simp; done) | (simp; omega)))
          have k6_0 : Blk w6 w1.heap.size 34 #[.int .i64 lo, .int .i64 hi] := Blk.below (by (repeat' (first | (with_reducible assumption) | (with_reducible exact Blk.new _ _ _) | (exact Blk.newAt (by first | rfl | (simp; done) | omega)) | (with_reducible refine Blk.drewN ?_ _) | (with_reducible refine Blk.drew ?_) | (with_reducible refine Blk.alloc ?_ _) | (with_reducible apply Blk.set_) | (with_reducible refine Blk.far ?_ ?_ _) | rfl | omega | (simp; done) | (simp; omega)))) hb (by first | omega | (simp; done) | (simp; omega))
          have c6_0 := k6_0.cell
          have f6_0 := k6_0.frozen
          have l6_0 := k6_0.lt
          have l6 := hB6.size
          clear hb k3_0 k3_1 c3_0 c3_1 f3_0 f3_1 l3_0 l3_1 hB3
          have n1 : decide (L < 0) = false := by simp; omega
          have n2 : decide (H < L) = false := by simp; omega
          have n3 : decide (16711680 < H) = false := by simp; omega
          have hWW := hW.out
          have x1 : 0 ≤ L := by omega
          have x2 : L ≤ H := by omega
          have x3 : H ≤ 16711680 := by omega
          clear hWW
          have kk : (k : Int) + 1 ≤ 31 := by omega
          have jj : (j : Int) + 3 ≤ 93 := by omega
          as_aux_lemma =>
            go_wp2_with fail
            go_roundw
            case rel =>
              refine ⟨k + 1, L, H, ?_, ?_, by omega, by omega, by omega, by omega, ?_, ?_, ?_⟩
              · simp
              · congr 1; omega
              · intro hs'; have := hW.out; first | (exact absurd hs' (by decide)) | omega
              · (repeat' (first | (with_reducible assumption) | (with_reducible exact Blk.new _ _ _) | (exact Blk.newAt (by first | rfl | (simp; done) | omega)) | (with_reducible refine Blk.drewN ?_ _) | (with_reducible refine Blk.drew ?_) | (with_reducible refine Blk.alloc ?_ _) | (with_reducible apply Blk.set_) | (with_reducible refine Blk.far ?_ ?_ _) | rfl | omega | (simp; done) | (simp; omega)))
              · (repeat' (first | (with_reducible exact Below.refl _ _) | (with_reducible assumption) | (with_reducible refine below_drewN ?_ _) | (with_reducible refine Below.drew ?_) | (with_reducible refine Below.alloc ?_ ?_ _) | (with_reducible refine Below.setCell ?_ ?_ _) | omega | (simp; done) | (simp; omega)))
            case measure => simp [intOf]; omega
      · as_aux_lemma =>
          have mu : A * vl ≤ 255 * 64 := Int.mul_le_mul a1 (by omega) (by omega) (by omega)
          have mv : A * vl ≤ 255 * 64 := Int.mul_le_mul a1 (by omega) (by omega) (by omega)
          have mw := Int.mul_nonneg a0 g0
          have mx : A * vl ≤ A * vl := Int.mul_le_mul_of_nonneg_left (by omega) a0
          have hov := fun w => over lo hi C A vl vl 64 t0 t1 t2 c0 c1 a0 a1 (by omega) (by omega) g0 (by omega) (by omega) w
          have L0 := lo_nonneg (255 * 64) (65536 * C) lo (A * vl) (A * vl) (by omega) t0 (by omega) mw mx mv
          have H0 := hi_le (255 * 64) (65536 * C) hi (A * vl) (A * vl) 16711680 (by omega) t2 (by omega) mw mx mv
          have LH := lo_le_hi (255 * 64) (65536 * C) lo hi (A * vl) (A * vl) (by omega) t1 mx mv
          have HW := width (255 * 64) (65536 * C) lo hi (A * vl) k (by omega) t1 (hS.out rfl) mw mu
          have HW0 := Lib.hid HW
          obtain ⟨L, eL⟩ : ∃ L, loOf (255 * 64) (65536 * C) lo (A * vl) (A * vl) = L := ⟨_, rfl⟩
          obtain ⟨H, eH⟩ : ∃ L, hiOf (255 * 64) (65536 * C) hi (A * vl) (A * vl) = L := ⟨_, rfl⟩
          simp only [eL, eH] at hov L0 H0 LH HW
          have hov' := Lib.hid hov
          have hW := Lib.hid HW
          clear hov eL eH mu mv mw mx HW HW0
          go_wp2_with fail
          refine (hov'.out _).mono ?_
          rintro e w6 ⟨rfl, hb⟩
          have hB6 : Below w.heap.size w w6 := Below.trans (by (repeat' (first | (with_reducible exact Below.refl _ _) | (with_reducible assumption) | (with_reducible refine below_drewN ?_ _) | (with_reducible refine Below.drew ?_) | (with_reducible refine Below.alloc ?_ ?_ _) | (with_reducible refine Below.setCell ?_ ?_ _) | omega | (simp; done) | (simp; omega)))) (hb.mono (by first | omega | (simp; done) | (simp; omega)))
          have k6_0 : Blk w6 w1.heap.size 34 #[.int .i64 lo, .int .i64 hi] := Blk.below (by (repeat' (first | (with_reducible assumption) | (with_reducible exact Blk.new _ _ _) | (exact Blk.newAt (by first | rfl | (simp; done) | omega)) | (with_reducible refine Blk.drewN ?_ _) | (with_reducible refine Blk.drew ?_) | (with_reducible refine Blk.alloc ?_ _) | (with_reducible apply Blk.set_) | (with_reducible refine Blk.far ?_ ?_ _) | rfl | omega | (simp; done) | (simp; omega)))) hb (by first | omega | (simp; done) | (simp; omega))
          have c6_0 := k6_0.cell
          have f6_0 := k6_0.frozen
          have l6_0 := k6_0.lt
          have l6 := hB6.size
          clear hb k3_0 k3_1 c3_0 c3_1 f3_0 f3_1 l3_0 l3_1 hB3
          have n1 : decide (L < 0) = false := by simp; omega
          have n2 : decide (H < L) = false := by simp; omega
          have n3 : decide (16711680 < H) = false := by simp; omega
          have hWW := hW.out
          have x1 : 0 ≤ L := by omega
          have x2 : L ≤ H := by omega
          have x3 : H ≤ 16711680 := by omega
          have n4 : decide ((k : Int) + 1 < H - L) = false := by simp; omega
          have x4 : H - L ≤ (k : Int) + 1 := by omega
          clear hWW
          have kk : (k : Int) + 1 ≤ 31 := by omega
          have jj : (j : Int) + 3 ≤ 93 := by omega
          as_aux_lemma =>
            go_wp2_with fail
            go_roundw
            case rel =>
              refine ⟨k + 1, L, H, ?_, ?_, by omega, by omega, by omega, by omega, ?_, ?_, ?_⟩
              · simp
              · congr 1; omega
              · intro hs'; have := hW.out; first | (exact absurd hs' (by decide)) | omega
              · (repeat' (first | (with_reducible assumption) | (with_reducible exact Blk.new _ _ _) | (exact Blk.newAt (by first | rfl | (simp; done) | omega)) | (with_reducible refine Blk.drewN ?_ _) | (with_reducible refine Blk.drew ?_) | (with_reducible refine Blk.alloc ?_ _) | (with_reducible apply Blk.set_) | (with_reducible refine Blk.far ?_ ?_ _) | rfl | omega | (simp; done) | (simp; omega)))
              · (repeat' (first | (with_reducible exact Below.refl _ _) | (with_reducible assumption) | (with_reducible refine below_drewN ?_ _) | (with_reducible refine Below.drew ?_) | (with_reducible refine Below.alloc ?_ ?_ _) | (with_reducible refine Below.setCell ?_ ?_ _) | omega | (simp; done) | (simp; omega)))
            case measure => simp [intOf]; omega
    · have d1 : decide ((j : Int) + 2 < len) = true := by simpa using h1
      have d2 : decide ((j : Int) < 90) = false := by simpa using h2
      as_aux_lemma =>
        go_wp2_with fail
        refine (awake24 _).mono ?_
        rintro e w6 ⟨rfl, hb⟩
        have hB6 : Below w.heap.size w w6 := Below.trans (by (repeat' (first | (with_reducible exact Below.refl _ _) | (with_reducible assumption) | (with_reducible refine below_drewN ?_ _) | (with_reducible refine Below.drew ?_) | (with_reducible refine Below.alloc ?_ ?_ _) | (with_reducible refine Below.setCell ?_ ?_ _) | omega | (simp; done) | (simp; omega)))) (hb.mono (by first | omega | (simp; done) | (simp; omega)))
        go_wp2_with fail
        go_ret
        exact ⟨rfl, hB6⟩
  · have d1 : decide ((j : Int) + 2 < len) = false := by simpa using h1
    as_aux_lemma =>
      go_wp2_with fail
      refine (awake24 _).mono ?_
      rintro e w6 ⟨rfl, hb⟩
      have hB6 : Below w.heap.size w w6 := Below.trans (by (repeat' (first | (with_reducible exact Below.refl _ _) | (with_reducible assumption) | (with_reducible refine below_drewN ?_ _) | (with_reducible refine Below.drew ?_) | (with_reducible refine Below.alloc ?_ ?_ _) | (with_reducible refine Below.setCell ?_ ?_ _) | omega | (simp; done) | (simp; omega)))) (hb.mono (by first | omega | (simp; done) | (simp; omega)))
      go_wp2_with fail
      go_ret
      exact ⟨rfl, hB6⟩
end Go.Proofs.Ytcpfpefbpeidpaa
