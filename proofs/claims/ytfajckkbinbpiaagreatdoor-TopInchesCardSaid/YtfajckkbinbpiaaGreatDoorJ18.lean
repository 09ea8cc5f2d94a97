/- Walks: a segment and a box. -/
import Derived.LoopTactic
import Derived.Test.YtfajckkbinbpiaaGreatDoorJ17
namespace Go.Proofs.YtfajckkbinbpiaaGreatDoor
set_option maxRecDepth 100000
set_option maxHeartbeats 32000000
set_option linter.unusedVariables false
set_option linter.unusedSimpArgs false
open Go.RowKit
def cor (a b c d : Int) : Nat → Int × Int
  | 0 => (a, b)
  | 1 => (c, b)
  | 2 => (a, d)
  | _ => (c, d)
theorem cor_idx (a b c d : Int) (k : Nat) (hk : k < 4) (w : World) : (Instr.index 236 (.agg #[.int .i64 a, .int .i64 b, .int .i64 c, .int .i64 b, .int .i64 a, .int .i64 d, .int .i64 c, .int .i64 d]) (.int .i64 (k : Int))).run Tryz.prog w = .ok (.agg #[.int .i64 (cor a b c d k).1, .int .i64 (cor a b c d k).2]) w := by
  rcases (show k = 0 ∨ k = 1 ∨ k = 2 ∨ k = 3 by omega) with rfl | rfl | rfl | rfl <;> kernel_rfl
theorem cor_range {a b c d : Int} (a_0 : -536870912 ≤ a) (a_1 : a ≤ 536870912) (b_0 : -536870912 ≤ b) (b_1 : b ≤ 536870912) (c_0 : -536870912 ≤ c) (c_1 : c ≤ 536870912) (d_0 : -536870912 ≤ d) (d_1 : d ≤ 536870912) (k : Nat) : (-536870912 ≤ (cor a b c d k).1 ∧ (cor a b c d k).1 ≤ 536870912) ∧ (-536870912 ≤ (cor a b c d k).2 ∧ (cor a b c d k).2 ≤ 536870912) := by
  unfold cor
  split <;> exact ⟨⟨by assumption, by assumption⟩, by assumption, by assumption⟩
def posN (K : Nat → Int) : Nat → Int
  | 0 => 0
  | k + 1 => posN K k + if 0 < K k then 1 else 0
def negN (K : Nat → Int) : Nat → Int
  | 0 => 0
  | k + 1 => negN K k + if K k < 0 then 1 else 0
theorem posN_range (K : Nat → Int) (k : Nat) : 0 ≤ posN K k ∧ posN K k ≤ k := by
  induction k with
  | zero => simp [posN]
  | succ k ih => unfold posN; split <;> omega
theorem negN_range (K : Nat → Int) (k : Nat) : 0 ≤ negN K k ∧ negN K k ≤ k := by
  induction k with
  | zero => simp [negN]
  | succ k ih => unfold negN; split <;> omega
theorem posN_four (K : Nat → Int) : posN K 4 < 4 ↔ ¬ (0 < K 0 ∧ 0 < K 1 ∧ 0 < K 2 ∧ 0 < K 3) := by
  simp only [posN]
  repeat' split
  all_goals omega
theorem negN_four (K : Nat → Int) : negN K 4 < 4 ↔ ¬ (K 0 < 0 ∧ K 1 < 0 ∧ K 2 < 0 ∧ K 3 < 0) := by
  simp only [negN]
  repeat' split
  all_goals omega
def crossAt (a b c d px py qx qy : Int) (k : Nat) : Int := Geo.cross px py qx qy (cor a b c d k).1 (cor a b c d k).2
theorem meets_eq {a b c d px py qx qy : Int} (h1 : ¬ (px < a ∧ qx < a)) (h2 : ¬ (c < px ∧ c < qx)) (h3 : ¬ (py < b ∧ qy < b)) (h4 : ¬ (d < py ∧ d < qy)) :
    Geo.meets ⟨a, b, c, d⟩ ((px, py), (qx, qy)) = (decide (posN (crossAt a b c d px py qx qy) 4 < 4) && decide (negN (crossAt a b c d px py qx qy) 4 < 4)) := by
  rw [Bool.eq_iff_iff]
  simp only [Bool.and_eq_true, decide_eq_true_eq, posN_four, negN_four]
  unfold Geo.meets
  simp only [Bool.not_eq_true', decide_eq_false_iff_not]
  unfold Geo.NoMeet
  simp only [crossAt, cor]
  constructor
  · intro h
    exact ⟨fun g => h (.inr (.inr (.inr (.inr (.inl g))))), fun g => h (.inr (.inr (.inr (.inr (.inr g)))))⟩
  · rintro ⟨g1, g2⟩ h
    rcases h with h | h | h | h | h | h
    · exact h1 h
    · exact h2 h
    · exact h3 h
    · exact h4 h
    · exact g1 h
    · exact g2 h
theorem meets_off {a b c d px py qx qy : Int} (h : (px < a ∧ qx < a) ∨ (c < px ∧ c < qx) ∨ (py < b ∧ qy < b) ∨ (d < py ∧ d < qy)) : Geo.meets ⟨a, b, c, d⟩ ((px, py), (qx, qy)) = false := by
  unfold Geo.meets
  have : Geo.NoMeet a b c d px py qx qy := by
    unfold Geo.NoMeet
    rcases h with h | h | h | h
    · exact .inl h
    · exact .inr (.inl h)
    · exact .inr (.inr (.inl h))
    · exact .inr (.inr (.inr (.inl h)))
  simp [this]
theorem meets_c (a b c d px py qx qy : Int) (w : World) (a_0 : -536870912 ≤ a) (a_1 : a ≤ 536870912) (b_0 : -536870912 ≤ b) (b_1 : b ≤ 536870912) (c_0 : -536870912 ≤ c) (c_1 : c ≤ 536870912) (d_0 : -536870912 ≤ d) (d_1 : d ≤ 536870912) (px_0 : -536870912 ≤ px) (px_1 : px ≤ 536870912) (py_0 : -536870912 ≤ py) (py_1 : py ≤ 536870912) (qx_0 : -536870912 ≤ qx) (qx_1 : qx ≤ 536870912) (qy_0 : -536870912 ≤ qy) (qy_1 : qy ≤ 536870912) (ac : a ≤ c) (bd : b ≤ d) :
    Calls Tryz.prog 290 #[.agg #[.int .i64 a, .int .i64 b, .int .i64 c, .int .i64 d], .agg #[.int .i64 px, .int .i64 py], .agg #[.int .i64 qx, .int .i64 qy]] w fun e w' => e = .returned (.bool (Geo.meets ⟨a, b, c, d⟩ ((px, py), (qx, qy)))) ∧ Below w.heap.size w w' := by
  have n0 := fun w => empty_no a b c d w ac bd
  have C0 := Lib.hid n0
  clear n0
  by_cases h1 : px < a ∧ qx < a
  · rw [meets_off (by left; exact h1)]
    have t1 : decide (max px qx < a) = true := by simp; omega
    clear h1
    go_enter Tryz.func290, Tryz.ntmps290
    go_wp2_with fail
    refine (C0.out _).mono ?_
    rintro e w1 ⟨rfl, hb⟩
    have hB1 : Below w.heap.size w w1 := Below.trans (by exact blw) (hb.mono (by first | omega | (simp; done) | (simp; omega)))
    have k1_0 : Blk w1 (w.heap.size) 70 #[.int .i64 a, .int .i64 b, .int .i64 c, .int .i64 d] := Blk.below (by exact bkw) hb (by first | omega | (simp; done) | (simp; omega))
    have k1_1 : Blk w1 (w.heap.size + 1) 58 #[.int .i64 px, .int .i64 py] := Blk.below (by exact bkw) hb (by first | omega | (simp; done) | (simp; omega))
    have k1_2 : Blk w1 (w.heap.size + 1 + 1) 58 #[.int .i64 qx, .int .i64 qy] := Blk.below (by exact bkw) hb (by first | omega | (simp; done) | (simp; omega))
    have c1_0 := k1_0.cell
    have f1_0 := k1_0.frozen
    have l1_0 := k1_0.lt
    have c1_1 := k1_1.cell
    have f1_1 := k1_1.frozen
    have l1_1 := k1_1.lt
    have c1_2 := k1_2.cell
    have f1_2 := k1_2.frozen
    have l1_2 := k1_2.lt
    have l1 := hB1.size
    clear hb
    go_wp2_with fail
    go_ret
    exact ⟨rfl, hB1⟩
  · skip
    by_cases h2 : c < px ∧ c < qx
    · rw [meets_off (by right; left; exact h2)]
      have t1 : decide (max px qx < a) = false := by simp; omega
      have t2 : decide (c < min px qx) = true := by simp; omega
      clear h1 h2
      go_enter Tryz.func290, Tryz.ntmps290
      go_wp2_with fail
      refine (C0.out _).mono ?_
      rintro e w1 ⟨rfl, hb⟩
      have hB1 : Below w.heap.size w w1 := Below.trans (by exact blw) (hb.mono (by first | omega | (simp; done) | (simp; omega)))
      have k1_0 : Blk w1 (w.heap.size) 70 #[.int .i64 a, .int .i64 b, .int .i64 c, .int .i64 d] := Blk.below (by exact bkw) hb (by first | omega | (simp; done) | (simp; omega))
      have k1_1 : Blk w1 (w.heap.size + 1) 58 #[.int .i64 px, .int .i64 py] := Blk.below (by exact bkw) hb (by first | omega | (simp; done) | (simp; omega))
      have k1_2 : Blk w1 (w.heap.size + 1 + 1) 58 #[.int .i64 qx, .int .i64 qy] := Blk.below (by exact bkw) hb (by first | omega | (simp; done) | (simp; omega))
      have c1_0 := k1_0.cell
      have f1_0 := k1_0.frozen
      have l1_0 := k1_0.lt
      have c1_1 := k1_1.cell
      have f1_1 := k1_1.frozen
      have l1_1 := k1_1.lt
      have c1_2 := k1_2.cell
      have f1_2 := k1_2.frozen
      have l1_2 := k1_2.lt
      have l1 := hB1.size
      clear hb
      go_wp2_with fail
      go_ret
      exact ⟨rfl, hB1⟩
    · skip
      by_cases h3 : py < b ∧ qy < b
      · rw [meets_off (by right; right; left; exact h3)]
        have t1 : decide (max px qx < a) = false := by simp; omega
        have t2 : decide (c < min px qx) = false := by simp; omega
        have t3 : decide (max py qy < b) = true := by simp; omega
        clear h1 h2 h3
        go_enter Tryz.func290, Tryz.ntmps290
        go_wp2_with fail
        refine (C0.out _).mono ?_
        rintro e w1 ⟨rfl, hb⟩
        have hB1 : Below w.heap.size w w1 := Below.trans (by exact blw) (hb.mono (by first | omega | (simp; done) | (simp; omega)))
        have k1_0 : Blk w1 (w.heap.size) 70 #[.int .i64 a, .int .i64 b, .int .i64 c, .int .i64 d] := Blk.below (by exact bkw) hb (by first | omega | (simp; done) | (simp; omega))
        have k1_1 : Blk w1 (w.heap.size + 1) 58 #[.int .i64 px, .int .i64 py] := Blk.below (by exact bkw) hb (by first | omega | (simp; done) | (simp; omega))
        have k1_2 : Blk w1 (w.heap.size + 1 + 1) 58 #[.int .i64 qx, .int .i64 qy] := Blk.below (by exact bkw) hb (by first | omega | (simp; done) | (simp; omega))
        have c1_0 := k1_0.cell
        have f1_0 := k1_0.frozen
        have l1_0 := k1_0.lt
        have c1_1 := k1_1.cell
        have f1_1 := k1_1.frozen
        have l1_1 := k1_1.lt
        have c1_2 := k1_2.cell
        have f1_2 := k1_2.frozen
        have l1_2 := k1_2.lt
        have l1 := hB1.size
        clear hb
        go_wp2_with fail
        go_ret
        exact ⟨rfl, hB1⟩
      · skip
        by_cases h4 : d < py ∧ d < qy
        · rw [meets_off (by right; right; right; exact h4)]
          have t1 : decide (max px qx < a) = false := by simp; omega
          have t2 : decide (c < min px qx) = false := by simp; omega
          have t3 : decide (max py qy < b) = false := by simp; omega
          have t4 : decide (d < min py qy) = true := by simp; omega
          clear h1 h2 h3 h4
          go_enter Tryz.func290, Tryz.ntmps290
          go_wp2_with fail
          refine (C0.out _).mono ?_
          rintro e w1 ⟨rfl, hb⟩
          have hB1 : Below w.heap.size w w1 := Below.trans (by exact blw) (hb.mono (by first | omega | (simp; done) | (simp; omega)))
          have k1_0 : Blk w1 (w.heap.size) 70 #[.int .i64 a, .int .i64 b, .int .i64 c, .int .i64 d] := Blk.below (by exact bkw) hb (by first | omega | (simp; done) | (simp; omega))
          have k1_1 : Blk w1 (w.heap.size + 1) 58 #[.int .i64 px, .int .i64 py] := Blk.below (by exact bkw) hb (by first | omega | (simp; done) | (simp; omega))
          have k1_2 : Blk w1 (w.heap.size + 1 + 1) 58 #[.int .i64 qx, .int .i64 qy] := Blk.below (by exact bkw) hb (by first | omega | (simp; done) | (simp; omega))
          have c1_0 := k1_0.cell
          have f1_0 := k1_0.frozen
          have l1_0 := k1_0.lt
          have c1_1 := k1_1.cell
          have f1_1 := k1_1.frozen
          have l1_1 := k1_1.lt
          have c1_2 := k1_2.cell
          have f1_2 := k1_2.frozen
          have l1_2 := k1_2.lt
          have l1 := hB1.size
          clear hb
          go_wp2_with fail
          go_ret
          exact ⟨rfl, hB1⟩
        · skip
          rw [meets_eq h1 h2 h3 h4]
          have hcr := fun k w (hk : k < 4) => cor_idx a b c d k hk w
          have hco := fun w => corners_c a b c d w
          have t1 : decide (max px qx < a) = false := by simp; omega
          have t2 : decide (c < min px qx) = false := by simp; omega
          have t3 : decide (max py qy < b) = false := by simp; omega
          have t4 : decide (d < min py qy) = false := by simp; omega
          obtain ⟨KK, eKK⟩ : ∃ K, crossAt a b c d px py qx qy = K := ⟨_, rfl⟩
          have hP := fun k (hk : k < 4) => (cor_range a_0 a_1 b_0 b_1 c_0 c_1 d_0 d_1 k)
          have hK : ∀ k, Geo.cross px py qx qy (cor a b c d k).1 (cor a b c d k).2 = KK k := by rw [← eKK]; exact fun k => rfl
          rw [eKK]
          have CI := Lib.hid hcr
          have CO := Lib.hid hco
          have CP := Lib.hid hP
          have CK := Lib.hid hK
          clear hcr hco hP hK eKK h1 h2 h3 h4
          go_enter Tryz.func290, Tryz.ntmps290
          go_wp2_with fail
          refine (C0.out _).mono ?_
          rintro e w1 ⟨rfl, hb⟩
          have hB1 : Below w.heap.size w w1 := Below.trans (by exact blw) (hb.mono (by first | omega | (simp; done) | (simp; omega)))
          have k1_0 : Blk w1 (w.heap.size) 70 #[.int .i64 a, .int .i64 b, .int .i64 c, .int .i64 d] := Blk.below (by exact bkw) hb (by first | omega | (simp; done) | (simp; omega))
          have k1_1 : Blk w1 (w.heap.size + 1) 58 #[.int .i64 px, .int .i64 py] := Blk.below (by exact bkw) hb (by first | omega | (simp; done) | (simp; omega))
          have k1_2 : Blk w1 (w.heap.size + 1 + 1) 58 #[.int .i64 qx, .int .i64 qy] := Blk.below (by exact bkw) hb (by first | omega | (simp; done) | (simp; omega))
          have c1_0 := k1_0.cell
          have f1_0 := k1_0.frozen
          have l1_0 := k1_0.lt
          have c1_1 := k1_1.cell
          have f1_1 := k1_1.frozen
          have l1_1 := k1_1.lt
          have c1_2 := k1_2.cell
          have f1_2 := k1_2.frozen
          have l1_2 := k1_2.lt
          have l1 := hB1.size
          clear hb
          go_wp2_with fail
          refine (CO.out _).mono ?_
          rintro e w2 ⟨rfl, hb⟩
          have hB2 : Below w.heap.size w w2 := Below.trans (by exact blw) (hb.mono (by first | omega | (simp; done) | (simp; omega)))
          have k2_0 : Blk w2 (w.heap.size) 70 #[.int .i64 a, .int .i64 b, .int .i64 c, .int .i64 d] := Blk.below (by exact bkw) hb (by first | omega | (simp; done) | (simp; omega))
          have k2_1 : Blk w2 (w.heap.size + 1) 58 #[.int .i64 px, .int .i64 py] := Blk.below (by exact bkw) hb (by first | omega | (simp; done) | (simp; omega))
          have k2_2 : Blk w2 (w.heap.size + 1 + 1) 58 #[.int .i64 qx, .int .i64 qy] := Blk.below (by exact bkw) hb (by first | omega | (simp; done) | (simp; omega))
          have c2_0 := k2_0.cell
          have f2_0 := k2_0.frozen
          have l2_0 := k2_0.lt
          have c2_1 := k2_1.cell
          have f2_1 := k2_1.frozen
          have l2_1 := k2_1.lt
          have c2_2 := k2_2.cell
          have f2_2 := k2_2.frozen
          have l2_2 := k2_2.lt
          have l2 := hB2.size
          clear hb k1_0 c1_0 f1_0 l1_0 k1_1 c1_1 f1_1 l1_1 k1_2 c1_2 f1_2 l1_2
          go_wp2_with fail
          have HB2 := Lib.hid (And.intro k2_0 (And.intro k2_1 (And.intro k2_2 hB2)))
          clear k2_0 k2_1 k2_2 hB2 c2_0 c2_1 c2_2 f2_0 f2_1 f2_2 l2_0 l2_1 l2_2 l2 hB1 l1
          go_loopw [7, 8, 56] (fun l r i wr => ∃ k : Nat, i = .int .i64 (k : Int) ∧ l = .int .i64 (posN KK k) ∧ r = .int .i64 (negN KK k) ∧ k ≤ 4 ∧ Blk wr w.heap.size 70 #[.int .i64 a, .int .i64 b, .int .i64 c, .int .i64 d] ∧ Blk wr (w.heap.size + 1) 58 #[.int .i64 px, .int .i64 py] ∧ Blk wr (w.heap.size + 1 + 1) 58 #[.int .i64 qx, .int .i64 qy] ∧ Below w.heap.size w wr) (fun _ _ i _ => 4 - (intOf i).toNat)
          case atStart => exact ⟨0, rfl, rfl, rfl, by omega, HB2.out.1, HB2.out.2.1, HB2.out.2.2.1, HB2.out.2.2.2⟩
          case round =>
          obtain ⟨k, rfl, rfl, rfl, hk, j0, j1, j2, hB⟩ := hrel
          have g0 := j0.cell
          have g1 := j1.cell
          have g2 := j2.cell
          have m0 := j0.lt
          have m1 := j1.lt
          have m2 := j2.lt
          have pr := posN_range KK k
          have nr := negN_range KK k
          by_cases hlt : k < 4
          · have ix := CI.out k
            obtain ⟨⟨x_0, x_1⟩, y_0, y_1⟩ := CP.out k hlt
            have ek := CK.out k
            have ps : posN KK (k + 1) = posN KK k + if 0 < KK k then 1 else 0 := rfl
            have ns : negN KK (k + 1) = negN KK k + if KK k < 0 then 1 else 0 := rfl
            have kr := cross_range px_0 px_1 py_0 py_1 qx_0 qx_1 qy_0 qy_1 x_0 x_1 y_0 y_1
            have cx := fun w => cross_c px py qx qy _ _ w px_0 px_1 py_0 py_1 qx_0 qx_1 qy_0 qy_1 x_0 x_1 y_0 y_1
            rw [ek] at kr cx
            obtain ⟨X, eX⟩ : ∃ X, (cor a b c d k).1 = X := ⟨_, rfl⟩
            obtain ⟨Y, eY⟩ : ∃ X, (cor a b c d k).2 = X := ⟨_, rfl⟩
            rw [eX, eY] at cx
            have ix' : ∀ w, (Instr.index 236 (.agg #[.int .i64 a, .int .i64 b, .int .i64 c, .int .i64 b, .int .i64 a, .int .i64 d, .int .i64 c, .int .i64 d]) (.int .i64 (k : Int))).run Tryz.prog w = .ok (.agg #[.int .i64 X, .int .i64 Y]) w := by rw [← eX, ← eY]; exact fun w => ix w hlt
            obtain ⟨C, eC⟩ : ∃ C, KK k = C := ⟨_, rfl⟩
            rw [eC] at kr cx ps ns
            obtain ⟨kr0, kr1⟩ := kr
            obtain ⟨pr0, pr1⟩ := pr
            obtain ⟨nr0, nr1⟩ := nr
            obtain ⟨PN, ePN⟩ : ∃ C, posN KK k = C := ⟨_, rfl⟩
            obtain ⟨NN, eNN⟩ : ∃ C, negN KK k = C := ⟨_, rfl⟩
            rw [ePN] at ps pr0 pr1
            rw [eNN] at ns nr0 nr1
            rw [ePN, eNN]
            have CX := Lib.hid cx
            have HPS := Lib.hid ps
            have HNS := Lib.hid ns
            have HJ := Lib.hid (And.intro j0 (And.intro j1 (And.intro j2 hB)))
            have i1 : (k : Int) < 4 := by omega
            clear ix eX eY ek eC cx ps ns ePN eNN x_0 x_1 y_0 y_1 j0 j1 j2
            go_wp2_with fail
            refine (CX.out _).mono ?_
            rintro e w3 ⟨rfl, hb⟩
            have hB3 : Below w.heap.size w w3 := (hB.alloc hB.size _).trans (hb.mono (by have := hB.size; simp; omega))
            have q0 : Blk w3 w.heap.size 70 #[.int .i64 a, .int .i64 b, .int .i64 c, .int .i64 d] := (HJ.out.1.alloc _).below hb (by simp; omega)
            have q1 : Blk w3 (w.heap.size + 1) 58 #[.int .i64 px, .int .i64 py] := (HJ.out.2.1.alloc _).below hb (by simp; omega)
            have q2 : Blk w3 (w.heap.size + 1 + 1) 58 #[.int .i64 qx, .int .i64 qy] := (HJ.out.2.2.1.alloc _).below hb (by simp; omega)
            have HQ := Lib.hid (And.intro q0 (And.intro q1 (And.intro q2 hB3)))
            clear hb hB3 q0 q1 q2 hB
            rcases Int.lt_trichotomy 0 C with hs | hs | hs
            · have d1 : decide (0 < C) = true := by simp; omega
              have d2 : decide (C < 0) = false := by simp; omega
              go_wp2_with fail
              go_roundw
              case rel => exact ⟨k + 1, by go_num, by rw [HPS.out, if_pos hs], by rw [HNS.out, if_neg (by omega)]; go_num, by omega, HQ.out.1, HQ.out.2.1, HQ.out.2.2.1, HQ.out.2.2.2⟩
              case measure => simp [intOf]; omega
            · have d1 : decide (0 < C) = false := by simp; omega
              have d2 : decide (C < 0) = false := by simp; omega
              go_wp2_with fail
              go_roundw
              case rel => exact ⟨k + 1, by go_num, by rw [HPS.out, if_neg (by omega)]; go_num, by rw [HNS.out, if_neg (by omega)]; go_num, by omega, HQ.out.1, HQ.out.2.1, HQ.out.2.2.1, HQ.out.2.2.2⟩
              case measure => simp [intOf]; omega
            · have d1 : decide (0 < C) = false := by simp; omega
              have d2 : decide (C < 0) = true := by simp; omega
              go_wp2_with fail
              go_roundw
              case rel => exact ⟨k + 1, by go_num, by rw [HPS.out, if_neg (by omega)]; go_num, by rw [HNS.out, if_pos hs], by omega, HQ.out.1, HQ.out.2.1, HQ.out.2.2.1, HQ.out.2.2.2⟩
              case measure => simp [intOf]; omega
          · obtain rfl : k = 4 := by omega
            obtain ⟨PN, ePN⟩ : ∃ C, posN KK 4 = C := ⟨_, rfl⟩
            obtain ⟨NN, eNN⟩ : ∃ C, negN KK 4 = C := ⟨_, rfl⟩
            have E1 := Lib.hid ePN
            have E2 := Lib.hid eNN
            rw [ePN] at pr ⊢
            rw [eNN] at nr ⊢
            have HBB := Lib.hid hB
            clear ePN eNN j0 j1 j2 hB g0 g1 g2 m0 m1 m2 hlt hk
            rcases Int.lt_or_le PN 4 with h5 | h5
            · rcases Int.lt_or_le NN 4 with h6 | h6
              · have d1 : decide (PN < 4) = true := by simp; omega
                have d2 : decide (NN < 4) = true := by simp; omega
                go_wp2_with fail
                go_ret
                first | exact ⟨rfl, HBB.out⟩ | exact ⟨by simp [E1.out, E2.out]; omega, HBB.out⟩
              · have d1 : decide (PN < 4) = true := by simp; omega
                have d2 : decide (NN < 4) = false := by simp; omega
                go_wp2_with fail
                go_ret
                first | exact ⟨rfl, HBB.out⟩ | exact ⟨by simp [E1.out, E2.out]; omega, HBB.out⟩
            · have d1 : decide (PN < 4) = false := by simp; omega
              go_wp2_with fail
              go_ret
              first | exact ⟨rfl, HBB.out⟩ | exact ⟨by simp [E1.out, E2.out]; omega, HBB.out⟩
end Go.Proofs.YtfajckkbinbpiaaGreatDoor
