/- A walk: heliographlaw14.WordTells returns true. -/
import Derived.Test.YtgbkanbahclnhaaWordRef
import Derived.Test.YtgbkanbahclnhaaWordTame
import Derived.Test.YtgbkanbahclnhaaWordSame
namespace Go.Proofs.Ytgbkanbahclnhaa
open Go.RowKit
set_option linter.unusedVariables false

theorem own_len {w : World} {B : Nat} {e : TypeId} {size n : Nat} {v : Value} {xs : List Value} (h : w.ownsRow B e size v n xs) : n ≤ 9223372036854775807 := by
  rcases h.2 with ⟨_, h0⟩ | ⟨g, cap, cur, _, _, _, hn, hm, _⟩
  · omega
  · unfold maxLen at hm; omega
set_option maxRecDepth 100000 in
set_option maxHeartbeats 4000000 in
theorem wordtells_c (s : List UInt8) (w : World) (hs : s.length ≤ 9223372036854775807) : Calls Try.prog 4 #[.string (bs s)] w fun e w' => e = .returned (.bool true) ∧ Below w.heap.size w w' := by
  obtain ⟨N, eN⟩ : ∃ N, s.length = N := ⟨_, rfl⟩
  have hsz : (bs s).size = N := by rw [bs_size, eN]
  rw [eN] at hs
  by_cases hlong : 2000 < N
  · have d0 : decide (2000 < (N : Int)) = true := by simp; omega
    obtain ⟨b, eb⟩ : ∃ b, bs s = b := ⟨_, rfl⟩
    rw [eb] at hsz ⊢
    go_enter Try.func4, Try.ntmps4
    go_wp2_with fail
    refine (awake14 _).mono ?_
    rintro e w6 ⟨rfl, hb⟩
    go_wp2_with fail
    go_ret
    exact ⟨rfl, hb⟩
  have d0 : decide (2000 < (N : Int)) = false := by simp; omega
  have start : ∃ l, bs s = bs l ∧ l.length ≤ 2000 := ⟨s, rfl, by omega⟩
  have ST := Lib.hid start
  clear start eN
  obtain ⟨b, eb⟩ : ∃ b, bs s = b := ⟨_, rfl⟩
  rw [eb] at hsz ST ⊢
  clear eb
  go_enter Try.func4, Try.ntmps4
  go_wp2_with fail
  go_loopw [3, 0] (fun i sv wr => ∃ (k : Nat) (l : List UInt8), i = .int .i64 (k : Int) ∧ sv = .string (bs l) ∧ k ≤ 2 ∧ l.length ≤ 2000 ∧ Below w.heap.size w wr) (fun i _ _ => 2 - (intOf i).toNat)
  case atStart =>
    obtain ⟨l, e, hl⟩ := ST.out
    exact ⟨0, l, rfl, by rw [e], by omega, hl, by (repeat' (first | (with_reducible exact Below.refl _ _) | (with_reducible assumption) | (with_reducible refine below_drewN ?_ _) | (with_reducible refine Below.drew ?_) | (with_reducible refine Below.alloc ?_ ?_ _) | (with_reducible refine Below.setCell ?_ ?_ _) | omega | (simp; done) | (simp; omega)))⟩
  case round =>
  obtain ⟨k, l, rfl, rfl, hk, hl, hB⟩ := hrel
  clear hsz ST
  by_cases hk2 : k < 2
  · have d1 : decide ((k : Int) < 2) = true := by simp; omega
    have c1 := fun w => words_c l w (by omega)
    have c2 := fun w => wordsR_c l w (by omega)
    have c3 := fun w => tame_c l w (by omega)
    obtain ⟨S, eS⟩ : ∃ x, bs l = x := ⟨_, rfl⟩
    rw [eS] at c1 c2 c3 ⊢
    unfold WordsIs at c1 c2
    obtain ⟨W, eW⟩ : ∃ x, words l = x := ⟨_, rfl⟩
    rw [eW] at c1 c2
    obtain ⟨ws, p, q⟩ := W
    simp only at c1 c2
    have C1 := Lib.hid c1
    have C2 := Lib.hid c2
    have C3 := Lib.hid c3
    clear c1 c2 c3 eS eW
    go_wp2_with fail
    refine (C1.out _).mono ?_
    rintro e w1 ⟨v1, rfl, hv1, hb⟩
    have hB1 : Below w.heap.size w w1 := hB.trans (hb.mono hB.size)
    have HV1 := Lib.hid hv1
    clear hb hv1
    go_wp2_with fail
    refine (C2.out _).mono ?_
    rintro e w2 ⟨v2, rfl, hv2, hb⟩
    have hB2 : Below w.heap.size w w2 := hB1.trans (hb.mono hB1.size)
    have HV1' := Lib.hid (own_below HV1.out hb (Nat.le_refl _))
    have HV2 := Lib.hid hv2
    clear hb hv2 HV1
    go_wp2_with fail
    refine (same_c ws v1 v2 _ _ w2 (own_len HV2.out) HV1'.out HV2.out).mono ?_
    rintro e w3 ⟨rfl, hb⟩
    have hB3 : Below w.heap.size w w3 := hB2.trans (hb.mono hB2.size)
    clear hb HV1' HV2
    go_wp2_with fail
    refine (C3.out _).mono ?_
    rintro e w4 ⟨t, rfl, ht, hb⟩
    have hB4 : Below w.heap.size w w4 := hB3.trans (hb.mono hB3.size)
    clear hb
    go_wp2_with fail
    go_roundw
    case rel => exact ⟨k + 1, t, by simp, rfl, by omega, by omega, hB4⟩
    case measure => simp [intOf]; omega
  · have d1 : decide ((k : Int) < 2) = false := by simp; omega
    go_wp2_with fail
    refine (awake14 _).mono ?_
    rintro e w6 ⟨rfl, hb⟩
    go_wp2_with fail
    go_ret
    exact ⟨rfl, hB.trans (hb.mono hB.size)⟩
end Go.Proofs.Ytgbkanbahclnhaa
