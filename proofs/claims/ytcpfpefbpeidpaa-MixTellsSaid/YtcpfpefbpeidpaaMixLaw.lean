/- The plain law of package mix: what the bounds of a tone are, with no program in sight. -/
import Derived.Test.YtcpfpefbpeidpaaMixBase
namespace Go.Proofs.Ytcpfpefbpeidpaa

/-- b * (D - W) + C * W. -/
def mixN (D C b W : Int) : Int := b * (D - W) + C * W
def leastOf (D C tl W0 W1 : Int) : Int := min (mixN D C tl W0) (mixN D C tl W1)
def mostOf (D C th W0 W1 : Int) : Int := max (mixN D C th W0) (mixN D C th W1)
def loOf (D C tl W0 W1 : Int) : Int := leastOf D C tl W0 W1 / D
def hiOf (D C th W0 W1 : Int) : Int := (mostOf D C th W0 W1 + D - 1) / D

theorem mixN_lin (D C b W : Int) : mixN D C b W = b * D + (C - b) * W := by
  unfold mixN; rw [Int.mul_sub, Int.sub_mul]; omega
theorem mixN_mono (D C b b' W : Int) (h : b ≤ b') (hW : W ≤ D) : mixN D C b W ≤ mixN D C b' W := by
  unfold mixN
  have := Int.mul_le_mul_of_nonneg_right h (show 0 ≤ D - W by omega)
  omega
theorem lin_min (p q W0 w W1 : Int) (h0 : W0 ≤ w) (h1 : w ≤ W1) : min (p + q * W0) (p + q * W1) ≤ p + q * w := by
  by_cases hq : 0 ≤ q
  · have := Int.mul_le_mul_of_nonneg_left h0 hq; omega
  · have := Int.mul_le_mul_of_nonpos_left (a := q) (by omega) h1; omega
theorem lin_max (p q W0 w W1 : Int) (h0 : W0 ≤ w) (h1 : w ≤ W1) : p + q * w ≤ max (p + q * W0) (p + q * W1) := by
  by_cases hq : 0 ≤ q
  · have := Int.mul_le_mul_of_nonneg_left h1 hq; omega
  · have := Int.mul_le_mul_of_nonpos_left (a := q) (by omega) h0; omega
theorem least_le (D C tl s W0 w W1 : Int) (h0 : W0 ≤ w) (h1 : w ≤ W1) (hD : w ≤ D) (hs : tl ≤ s) : leastOf D C tl W0 W1 ≤ mixN D C s w := by
  have h := lin_min (tl * D) (C - tl) W0 w W1 h0 h1
  have m := mixN_mono D C tl s w hs hD
  unfold leastOf
  rw [mixN_lin D C tl w] at m
  rw [mixN_lin D C tl W0, mixN_lin D C tl W1]
  omega
theorem le_most (D C th s W0 w W1 : Int) (h0 : W0 ≤ w) (h1 : w ≤ W1) (hD : w ≤ D) (hs : s ≤ th) : mixN D C s w ≤ mostOf D C th W0 W1 := by
  have h := lin_max (th * D) (C - th) W0 w W1 h0 h1
  have m := mixN_mono D C s th w hs hD
  unfold mostOf
  rw [mixN_lin D C th w] at m
  rw [mixN_lin D C th W0, mixN_lin D C th W1]
  omega
theorem least_mono (D C tl s W0 V0 V1 W1 : Int) (h0 : W0 ≤ V0) (h1 : V0 ≤ V1) (h2 : V1 ≤ W1) (hD : W1 ≤ D) (hs : tl ≤ s) : leastOf D C tl W0 W1 ≤ leastOf D C s V0 V1 := by
  have a := least_le D C tl s W0 V0 W1 h0 (by omega) (by omega) hs
  have b := least_le D C tl s W0 V1 W1 (by omega) h2 (by omega) hs
  unfold leastOf at *
  omega
theorem most_mono (D C th s W0 V0 V1 W1 : Int) (h0 : W0 ≤ V0) (h1 : V0 ≤ V1) (h2 : V1 ≤ W1) (hD : W1 ≤ D) (hs : s ≤ th) : mostOf D C s V0 V1 ≤ mostOf D C th W0 W1 := by
  have a := le_most D C th s W0 V0 W1 h0 (by omega) (by omega) hs
  have b := le_most D C th s W0 V1 W1 (by omega) h2 (by omega) hs
  unfold mostOf at *
  omega
theorem lo_mono (D C tl s W0 V0 V1 W1 : Int) (d : 1 ≤ D) (h0 : W0 ≤ V0) (h1 : V0 ≤ V1) (h2 : V1 ≤ W1) (hD : W1 ≤ D) (hs : tl ≤ s) : loOf D C tl W0 W1 ≤ loOf D C s V0 V1 :=
  Int.ediv_le_ediv (by omega) (least_mono D C tl s W0 V0 V1 W1 h0 h1 h2 hD hs)
theorem hi_mono (D C th s W0 V0 V1 W1 : Int) (d : 1 ≤ D) (h0 : W0 ≤ V0) (h1 : V0 ≤ V1) (h2 : V1 ≤ W1) (hD : W1 ≤ D) (hs : s ≤ th) : hiOf D C s V0 V1 ≤ hiOf D C th W0 W1 :=
  Int.ediv_le_ediv (by omega) (by have := most_mono D C th s W0 V0 V1 W1 h0 h1 h2 hD hs; omega)
theorem floor_le (D n : Int) (d : 1 ≤ D) : n / D * D ≤ n := Int.ediv_mul_le n (by omega)
theorem le_ceil (D n : Int) (d : 1 ≤ D) : n ≤ (n + D - 1) / D * D := by
  have h := Int.lt_ediv_add_one_mul_self (n + D - 1) (show 0 < D by omega)
  rw [Int.add_mul] at h
  omega
/-- The exact colour lies between the bounds. -/
theorem exact_between (D C tl th s W0 w W1 : Int) (d : 1 ≤ D) (h0 : W0 ≤ w) (h1 : w ≤ W1) (hD : W1 ≤ D) (a : tl ≤ s) (b : s ≤ th) :
    loOf D C tl W0 W1 * D ≤ mixN D C s w ∧ mixN D C s w ≤ hiOf D C th W0 W1 * D := by
  have a1 := least_le D C tl s W0 w W1 h0 h1 (by omega) a
  have a2 := le_most D C th s W0 w W1 h0 h1 (by omega) b
  have a3 := floor_le D (leastOf D C tl W0 W1) d
  have a4 := le_ceil D (mostOf D C th W0 W1) d
  unfold loOf hiOf
  omega
theorem mixN_nonneg (D C b W : Int) (hb : 0 ≤ b) (hC : 0 ≤ C) (h0 : 0 ≤ W) (h1 : W ≤ D) : 0 ≤ mixN D C b W := by
  unfold mixN
  have a := Int.mul_nonneg hb (show 0 ≤ D - W by omega)
  have b := Int.mul_nonneg hC h0
  omega
theorem mixN_le (D C b W T : Int) (hb : b ≤ T) (hC : C ≤ T) (h0 : 0 ≤ W) (h1 : W ≤ D) : mixN D C b W ≤ T * D := by
  unfold mixN
  have a := Int.mul_le_mul_of_nonneg_right hb (show 0 ≤ D - W by omega)
  have b := Int.mul_le_mul_of_nonneg_right hC h0
  have c : T * (D - W) + T * W = T * D := by rw [← Int.mul_add]; congr 1; omega
  omega
theorem lo_nonneg (D C tl W0 W1 : Int) (d : 1 ≤ D) (ht : 0 ≤ tl) (hC : 0 ≤ C) (h0 : 0 ≤ W0) (h1 : W0 ≤ W1) (h2 : W1 ≤ D) : 0 ≤ loOf D C tl W0 W1 := by
  have a := mixN_nonneg D C tl W0 ht hC h0 (by omega)
  have b := mixN_nonneg D C tl W1 ht hC (by omega) h2
  exact Int.ediv_nonneg (by unfold leastOf; omega) (by omega)
theorem hi_le (D C th W0 W1 T : Int) (d : 1 ≤ D) (ht : th ≤ T) (hC : C ≤ T) (h0 : 0 ≤ W0) (h1 : W0 ≤ W1) (h2 : W1 ≤ D) : hiOf D C th W0 W1 ≤ T := by
  have a := mixN_le D C th W0 T ht hC h0 (by omega)
  have b := mixN_le D C th W1 T ht hC (by omega) h2
  have m : mostOf D C th W0 W1 + D - 1 < (T + 1) * D := by rw [Int.add_mul]; unfold mostOf; omega
  have := Int.ediv_lt_of_lt_mul (show 0 < D by omega) m
  unfold hiOf
  omega
theorem lo_le_hi (D C tl th W0 W1 : Int) (d : 1 ≤ D) (ht : tl ≤ th) (h1 : W0 ≤ W1) (h2 : W1 ≤ D) : loOf D C tl W0 W1 ≤ hiOf D C th W0 W1 := by
  have a := mixN_mono D C tl th W0 ht (by omega)
  exact Int.ediv_le_ediv (by omega) (by unfold leastOf mostOf; omega)
theorem div_self_mul (D n : Int) (d : 1 ≤ D) : n * D / D = n := Int.mul_ediv_cancel n (by omega)
theorem ceil_self_mul (D n : Int) (d : 1 ≤ D) : (n * D + D - 1) / D = n := by
  rw [show n * D + D - 1 = (D - 1) + n * D by omega, Int.add_mul_ediv_right _ _ (by omega : D ≠ 0), Int.ediv_eq_zero_of_lt (by omega) (by omega)]
  omega
theorem mixN_zero (D C b : Int) : mixN D C b 0 = b * D := by unfold mixN; simp
theorem mixN_all (D C b : Int) : mixN D C b D = C * D := by unfold mixN; simp
theorem lo_zero (D C tl : Int) (d : 1 ≤ D) : loOf D C tl 0 0 = tl := by unfold loOf leastOf; rw [mixN_zero, show min (tl * D) (tl * D) = tl * D by omega, div_self_mul _ _ d]
theorem hi_zero (D C th : Int) (d : 1 ≤ D) : hiOf D C th 0 0 = th := by unfold hiOf mostOf; rw [mixN_zero, show max (th * D) (th * D) = th * D by omega, ceil_self_mul _ _ d]
theorem lo_all (D C tl : Int) (d : 1 ≤ D) : loOf D C tl D D = C := by unfold loOf leastOf; rw [mixN_all, show min (C * D) (C * D) = C * D by omega, div_self_mul _ _ d]
theorem hi_all (D C th : Int) (d : 1 ≤ D) : hiOf D C th D D = C := by unfold hiOf mostOf; rw [mixN_all, show max (C * D) (C * D) = C * D by omega, ceil_self_mul _ _ d]
/-- Where the cover is sure a tone becomes wider by one at most. -/
theorem width (D C tl th W k : Int) (d : 1 ≤ D) (ht : tl ≤ th) (hk : th - tl ≤ k) (h0 : 0 ≤ W) (h1 : W ≤ D) : hiOf D C th W W - loOf D C tl W W ≤ k + 1 := by
  have e : mixN D C th W ≤ mixN D C tl W + k * D := by
    have a := Int.mul_le_mul_of_nonneg_right hk (show 0 ≤ D - W by omega)
    have b := Int.mul_nonneg (show 0 ≤ k by omega) h0
    rw [Int.sub_mul] at a
    rw [Int.mul_sub k D W] at a
    unfold mixN
    omega
  have l : leastOf D C tl W W = mixN D C tl W := by unfold leastOf; omega
  have m : mostOf D C th W W = mixN D C th W := by unfold mostOf; omega
  have f := Int.lt_ediv_add_one_mul_self (mixN D C tl W) (show 0 < D by omega)
  unfold hiOf loOf
  rw [l, m]
  have g : mixN D C th W + D - 1 < (mixN D C tl W / D + (k + 2)) * D := by
    rw [Int.add_mul] at f ⊢
    rw [show (k + 2) * D = k * D + 2 * D by rw [Int.add_mul]]
    omega
  have := Int.ediv_lt_of_lt_mul (show 0 < D by omega) g
  omega
end Go.Proofs.Ytcpfpefbpeidpaa
