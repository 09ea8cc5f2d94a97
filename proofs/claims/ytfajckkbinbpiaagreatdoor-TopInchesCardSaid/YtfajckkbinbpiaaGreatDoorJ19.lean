/- Walks: the class of a box in a stroke. -/
import Derived.Test.YtfajckkbinbpiaaGreatDoorJ18
namespace Go.Proofs.YtfajckkbinbpiaaGreatDoor
set_option maxRecDepth 100000
set_option maxHeartbeats 32000000
set_option linter.unusedVariables false
set_option linter.unusedSimpArgs false
open Go.RowKit
def inN (H : Nat → Bool) : Nat → Int
  | 0 => 0
  | k + 1 => inN H k + if H k = true then 1 else 0
theorem inN_range (H : Nat → Bool) (k : Nat) : 0 ≤ inN H k ∧ inN H k ≤ k := by
  induction k with
  | zero => simp [inN]
  | succ k ih => unfold inN; split <;> omega
def hasAt (a b c d px py qx qy r : Int) (k : Nat) : Bool := decide (Geo.HasL px py qx qy r (cor a b c d k).1 (cor a b c d k).2)
theorem cornersIn_eq (a b c d px py qx qy r : Int) : ((Geo.cornersIn ⟨a, b, c, d⟩ px py qx qy r : Nat) : Int) = inN (hasAt a b c d px py qx qy r) 4 := by
  unfold Geo.cornersIn
  simp only [inN, hasAt, cor, decide_eq_true_eq]
  repeat' split
  all_goals simp
theorem lineC_eq (a b c d px py qx qy r : Int) : Geo.lineC ⟨a, b, c, d⟩ px py qx qy r = if inN (hasAt a b c d px py qx qy r) 4 = 4 then 2 else if 0 < inN (hasAt a b c d px py qx qy r) 4 then 1 else if Geo.near2 a b c d px py ≤ r * r then 1 else if Geo.near2 a b c d qx qy ≤ r * r then 1 else if Geo.meets ⟨a, b, c, d⟩ ((px, py), (qx, qy)) = true then 1 else 0 := by
  have e := cornersIn_eq a b c d px py qx qy r
  unfold Geo.lineC
  simp only []
  generalize inN (hasAt a b c d px py qx qy r) 4 = N at e ⊢
  generalize Geo.cornersIn ⟨a, b, c, d⟩ px py qx qy r = M at e ⊢
  subst e
  by_cases h4 : M = 4
  · simp [h4]
  · have h4' : ¬ ((M : Int) = 4) := by omega
    by_cases h0 : 0 < M
    · have h0' : (0 : Int) < M := by omega
      simp only [h4, h4', h0, h0', if_true, if_false, true_or]
    · have h0' : ¬ (0 : Int) < M := by omega
      simp only [h4, h4', h0, h0', if_false, false_or]
      by_cases h1 : Geo.near2 a b c d px py ≤ r * r
      · simp only [h1, if_true, true_or]
      · by_cases h2 : Geo.near2 a b c d qx qy ≤ r * r
        · simp only [h1, h2, if_true, if_false, true_or, false_or]
        · simp only [h1, h2, if_false, false_or]
theorem lineClass_c (a b c d px py qx qy r : Int) (w : World) (a_0 : -536870912 ≤ a) (a_1 : a ≤ 536870912) (b_0 : -536870912 ≤ b) (b_1 : b ≤ 536870912) (c_0 : -536870912 ≤ c) (c_1 : c ≤ 536870912) (d_0 : -536870912 ≤ d) (d_1 : d ≤ 536870912) (px_0 : -536870912 ≤ px) (px_1 : px ≤ 536870912) (py_0 : -536870912 ≤ py) (py_1 : py ≤ 536870912) (qx_0 : -536870912 ≤ qx) (qx_1 : qx ≤ 536870912) (qy_0 : -536870912 ≤ qy) (qy_1 : qy ≤ 536870912) (ac : a ≤ c) (bd : b ≤ d) (r_0 : 1 ≤ r) (r_1 : r ≤ 536870912) :
    Calls Tryz.prog 248 #[.agg #[.int .i64 a, .int .i64 b, .int .i64 c, .int .i64 d], .agg #[.int .i64 px, .int .i64 py], .agg #[.int .i64 qx, .int .i64 qy], .int .i64 r] w fun e w' => e = .returned (.int .i64 (Geo.lineC ⟨a, b, c, d⟩ px py qx qy r)) ∧ Below w.heap.size w w' := by
  have n0 := fun w => has_corner a b c d w ac bd
  have n1 := fun w => corners_c a b c d w
  have n2 := fun w => linesquare_c r w r_0 r_1
  have n3 := fun w => bnear_c a b c d px py w a_0 a_1 b_0 b_1 c_0 c_1 d_0 d_1 px_0 px_1 py_0 py_1
  have n4 := fun w => bnear_c a b c d qx qy w a_0 a_1 b_0 b_1 c_0 c_1 d_0 d_1 qx_0 qx_1 qy_0 qy_1
  have n5 := fun w => meets_c a b c d px py qx qy w a_0 a_1 b_0 b_1 c_0 c_1 d_0 d_1 px_0 px_1 py_0 py_1 qx_0 qx_1 qy_0 qy_1 ac bd
  have n6 := fun k w (hk : k < 4) => cor_idx a b c d k hk w
  have hP := fun k (hk : k < 4) => (cor_range a_0 a_1 b_0 b_1 c_0 c_1 d_0 d_1 k)
  have hL := fun x y w x_0 x_1 y_0 y_1 => lineHas_c x y px py qx qy r w x_0 x_1 y_0 y_1 px_0 px_1 py_0 py_1 qx_0 qx_1 qy_0 qy_1 r_0 r_1
  have N1 := near2_range a_0 a_1 b_0 b_1 c_0 c_1 d_0 d_1 px_0 px_1 py_0 py_1
  have N2 := near2_range a_0 a_1 b_0 b_1 c_0 c_1 d_0 d_1 qx_0 qx_1 qy_0 qy_1
  have N3 := sq_range (z := r) (by omega) (by omega)
  obtain ⟨K, eK⟩ : ∃ K, Geo.lineC ⟨a, b, c, d⟩ px py qx qy r = K := ⟨_, rfl⟩
  rw [eK]
  rw [lineC_eq] at eK
  obtain ⟨HH, eHH⟩ : ∃ K, hasAt a b c d px py qx qy r = K := ⟨_, rfl⟩
  obtain ⟨NP, eNP⟩ : ∃ N, Geo.near2 a b c d px py = N := ⟨_, rfl⟩
  obtain ⟨NQ, eNQ⟩ : ∃ N, Geo.near2 a b c d qx qy = N := ⟨_, rfl⟩
  obtain ⟨R, eR⟩ : ∃ N, r * r = N := ⟨_, rfl⟩
  obtain ⟨MT, eMT⟩ : ∃ N, Geo.meets ⟨a, b, c, d⟩ ((px, py), (qx, qy)) = N := ⟨_, rfl⟩
  have hK : ∀ k, decide (Geo.HasL px py qx qy r (cor a b c d k).1 (cor a b c d k).2) = HH k := by rw [← eHH]; exact fun k => rfl
  rw [eHH, eNP, eNQ, eR, eMT] at eK
  rw [eR] at n2 N3
  rw [eNP] at n3 N1
  rw [eNQ] at n4 N2
  rw [eMT] at n5
  obtain ⟨N10, N11⟩ := N1
  obtain ⟨N20, N21⟩ := N2
  obtain ⟨N30, N31⟩ := N3
  have C0 := Lib.hid n0
  have C1 := Lib.hid n1
  have C2 := Lib.hid n2
  have C3 := Lib.hid n3
  have C4 := Lib.hid n4
  have C5 := Lib.hid n5
  have C6 := Lib.hid n6
  have CP := Lib.hid hP
  have CL := Lib.hid hL
  have CK := Lib.hid hK
  have EK := Lib.hid eK
  clear n0 n1 n2 n3 n4 n5 n6 hP hL hK eK eHH eNP eNQ eR eMT a_0 a_1 b_0 b_1 c_0 c_1 d_0 d_1 px_0 px_1 py_0 py_1 qx_0 qx_1 qy_0 qy_1
  go_enter Tryz.func248, Tryz.ntmps248
  go_wp2_with fail
  refine (C0.out _).mono ?_
  rintro e w1 ⟨rfl, hb⟩
  have hB1 : Below w.heap.size w w1 := Below.trans (by exact blw) (hb.mono (by first | omega | (simp; done) | (simp; omega)))
  have k1_0 : Blk w1 (w.heap.size) 70 #[.int .i64 a, .int .i64 b, .int .i64 c, .int .i64 d] := Blk.below (by exact bkw) hb (by first | omega | (simp; done) | (simp; omega))
  have k1_1 : Blk w1 (w.heap.size + 1) 58 #[.int .i64 px, .int .i64 py] := Blk.below (by exact bkw) hb (by first | omega | (simp; done) | (simp; omega))
  have k1_2 : Blk w1 (w.heap.size + 1 + 1) 58 #[.int .i64 qx, .int .i64 qy] := Blk.below (by exact bkw) hb (by first | omega | (simp; done) | (simp; omega))
  have c1_0 := k1_0.cell
  have f1_0 := k1_0.frozen
  have l1_0 := k1_0.lt
  have c1_1 := k1_1.cell
  have f1_1 := k1_1.frozen
  have l1_1 := k1_1.lt
  have c1_2 := k1_2.cell
  have f1_2 := k1_2.frozen
  have l1_2 := k1_2.lt
  have l1 := hB1.size
  clear hb
  go_wp2_with fail
  refine (C1.out _).mono ?_
  rintro e w2 ⟨rfl, hb⟩
  have hB2 : Below w.heap.size w w2 := Below.trans (by exact blw) (hb.mono (by first | omega | (simp; done) | (simp; omega)))
  have k2_0 : Blk w2 (w.heap.size) 70 #[.int .i64 a, .int .i64 b, .int .i64 c, .int .i64 d] := Blk.below (by exact bkw) hb (by first | omega | (simp; done) | (simp; omega))
  have k2_1 : Blk w2 (w.heap.size + 1) 58 #[.int .i64 px, .int .i64 py] := Blk.below (by exact bkw) hb (by first | omega | (simp; done) | (simp; omega))
  have k2_2 : Blk w2 (w.heap.size + 1 + 1) 58 #[.int .i64 qx, .int .i64 qy] := Blk.below (by exact bkw) hb (by first | omega | (simp; done) | (simp; omega))
  have c2_0 := k2_0.cell
  have f2_0 := k2_0.frozen
  have l2_0 := k2_0.lt
  have c2_1 := k2_1.cell
  have f2_1 := k2_1.frozen
  have l2_1 := k2_1.lt
  have c2_2 := k2_2.cell
  have f2_2 := k2_2.frozen
  have l2_2 := k2_2.lt
  have l2 := hB2.size
  clear hb k1_0 c1_0 f1_0 l1_0 k1_1 c1_1 f1_1 l1_1 k1_2 c1_2 f1_2 l1_2
  go_wp2_with fail
  have HB2 := Lib.hid (And.intro k2_0 (And.intro k2_1 (And.intro k2_2 hB2)))
  clear k2_0 c2_0 f2_0 l2_0 k2_1 c2_1 f2_1 l2_1 k2_2 c2_2 f2_2 l2_2 l2 hB2 hB1 l1
  go_loopw [9, 27] (fun l i wr => ∃ k : Nat, i = .int .i64 (k : Int) ∧ l = .int .i64 (inN HH k) ∧ k ≤ 4 ∧ Blk wr w.heap.size 70 #[.int .i64 a, .int .i64 b, .int .i64 c, .int .i64 d] ∧ Blk wr (w.heap.size + 1) 58 #[.int .i64 px, .int .i64 py] ∧ Blk wr (w.heap.size + 1 + 1) 58 #[.int .i64 qx, .int .i64 qy] ∧ Below w.heap.size w wr) (fun _ i _ => 4 - (intOf i).toNat)
  case atStart => exact ⟨0, rfl, rfl, by omega, HB2.out.1, HB2.out.2.1, HB2.out.2.2.1, HB2.out.2.2.2⟩
  case round =>
  obtain ⟨k, rfl, rfl, hk, j0, j1, j2, hB⟩ := hrel
  have g0 := j0.cell
  have g1 := j1.cell
  have g2 := j2.cell
  have m0 := j0.lt
  have m1 := j1.lt
  have m2 := j2.lt
  have pr := inN_range HH k
  by_cases hlt : k < 4
  · have ix := C6.out k
    obtain ⟨⟨x_0, x_1⟩, y_0, y_1⟩ := CP.out k hlt
    have ek := CK.out k
    have ps : inN HH (k + 1) = inN HH k + if HH k = true then 1 else 0 := rfl
    obtain ⟨X, eX⟩ : ∃ X, (cor a b c d k).1 = X := ⟨_, rfl⟩
    obtain ⟨Y, eY⟩ : ∃ X, (cor a b c d k).2 = X := ⟨_, rfl⟩
    rw [eX] at x_0 x_1 ek
    rw [eY] at y_0 y_1 ek
    have cx := fun w => CL.out X Y w x_0 x_1 y_0 y_1
    rw [ek] at cx
    have ix' : ∀ w, (Instr.index 236 (.agg #[.int .i64 a, .int .i64 b, .int .i64 c, .int .i64 b, .int .i64 a, .int .i64 d, .int .i64 c, .int .i64 d]) (.int .i64 (k : Int))).run Tryz.prog w = .ok (.agg #[.int .i64 X, .int .i64 Y]) w := by rw [← eX, ← eY]; exact fun w => ix w hlt
    obtain ⟨C, eC⟩ : ∃ C, HH k = C := ⟨_, rfl⟩
    rw [eC] at cx ps
    obtain ⟨pr0, pr1⟩ := pr
    obtain ⟨PN, ePN⟩ : ∃ C, inN HH k = C := ⟨_, rfl⟩
    rw [ePN] at ps pr0 pr1
    rw [ePN]
    have CX := Lib.hid cx
    have HPS := Lib.hid ps
    have HJ := Lib.hid (And.intro j0 (And.intro j1 (And.intro j2 hB)))
    have i1 : (k : Int) < 4 := by omega
    clear ix eX eY ek eC cx ps ePN x_0 x_1 y_0 y_1 j0 j1 j2
    go_wp2_with fail
    refine (CX.out _).mono ?_
    rintro e w3 ⟨rfl, hb⟩
    have hB3 : Below w.heap.size w w3 := (hB.alloc hB.size _).trans (hb.mono (by have := hB.size; simp; omega))
    have q0 : Blk w3 w.heap.size 70 #[.int .i64 a, .int .i64 b, .int .i64 c, .int .i64 d] := (HJ.out.1.alloc _).below hb (by simp; omega)
    have q1 : Blk w3 (w.heap.size + 1) 58 #[.int .i64 px, .int .i64 py] := (HJ.out.2.1.alloc _).below hb (by simp; omega)
    have q2 : Blk w3 (w.heap.size + 1 + 1) 58 #[.int .i64 qx, .int .i64 qy] := (HJ.out.2.2.1.alloc _).below hb (by simp; omega)
    have HQ := Lib.hid (And.intro q0 (And.intro q1 (And.intro q2 hB3)))
    clear hb hB3 q0 q1 q2 hB
    cases C
    · go_wp2_with fail
      go_roundw
      case rel => exact ⟨k + 1, by go_num, by rw [HPS.out, if_neg (by decide)]; go_num, by omega, HQ.out.1, HQ.out.2.1, HQ.out.2.2.1, HQ.out.2.2.2⟩
      case measure => simp [intOf]; omega
    · go_wp2_with fail
      go_roundw
      case rel => exact ⟨k + 1, by go_num, by rw [HPS.out]; simp, by omega, HQ.out.1, HQ.out.2.1, HQ.out.2.2.1, HQ.out.2.2.2⟩
      case measure => simp [intOf]; omega
  · obtain rfl : k = 4 := by omega
    have eK := EK.out
    obtain ⟨PN, ePN⟩ : ∃ C, inN HH 4 = C := ⟨_, rfl⟩
    rw [ePN] at eK pr ⊢
    obtain ⟨pr0, pr1⟩ := pr
    have HJ := Lib.hid (And.intro j0 (And.intro j1 (And.intro j2 hB)))
    clear ePN hlt hk
    by_cases h4 : PN = 4
    · rw [if_pos h4] at eK
      subst eK
      have HBB := Lib.hid hB
      clear j0 j1 j2 g0 g1 g2 m0 m1 m2 hB HJ
      go_wp2_with fail
      go_ret
      exact ⟨rfl, HBB.out⟩
    · rw [if_neg h4] at eK
      have d0 : ((PN : Int) == 4) = false := by simp; omega
      have hB2 := hB
      clear j0 j1 j2 hB
      by_cases h0 : 0 < PN
      · rw [if_pos h0] at eK
        subst eK
        have d1 : decide (0 < PN) = true := by simp; omega
        go_wp2_with fail
        refine (C2.out _).mono ?_
        rintro e w' ⟨rfl, rfl⟩
        go_wp2_with fail
        go_ret
        exact ⟨rfl, HJ.out.2.2.2⟩
      · rw [if_neg h0] at eK
        have d1 : decide (0 < PN) = false := by simp; omega
        go_wp2_with fail
        refine (C2.out _).mono ?_
        rintro e w' ⟨rfl, rfl⟩
        by_cases h1 : NP ≤ R
        · rw [if_pos h1] at eK
          subst eK
          have d2 : decide (NP ≤ R) = true := by simp; omega
          go_wp2_with fail
          refine (C3.out _).mono ?_
          rintro e w3 ⟨rfl, hb⟩
          have hB3 : Below w.heap.size w w3 := HJ.out.2.2.2.trans (hb.mono HJ.out.2.2.2.size)
          have k3_0 : Blk w3 w.heap.size 70 #[.int .i64 a, .int .i64 b, .int .i64 c, .int .i64 d] := HJ.out.1.below hb HJ.out.1.lt
          have k3_1 : Blk w3 (w.heap.size + 1) 58 #[.int .i64 px, .int .i64 py] := HJ.out.2.1.below hb HJ.out.2.1.lt
          have k3_2 : Blk w3 (w.heap.size + 1 + 1) 58 #[.int .i64 qx, .int .i64 qy] := HJ.out.2.2.1.below hb HJ.out.2.2.1.lt
          have c3_0 := k3_0.cell
          have c3_1 := k3_1.cell
          have c3_2 := k3_2.cell
          have l3_0 := k3_0.lt
          have l3_1 := k3_1.lt
          have l3_2 := k3_2.lt
          clear hb g0 g1 g2 m0 m1 m2
          go_wp2_with fail
          go_ret
          exact ⟨rfl, hB3⟩
        · rw [if_neg h1] at eK
          have d2 : decide (NP ≤ R) = false := by simp; omega
          by_cases h2 : NQ ≤ R
          · rw [if_pos h2] at eK
            subst eK
            have d3 : decide (NQ ≤ R) = true := by simp; omega
            go_wp2_with fail
            refine (C3.out _).mono ?_
            rintro e w3 ⟨rfl, hb⟩
            have hB3 : Below w.heap.size w w3 := HJ.out.2.2.2.trans (hb.mono HJ.out.2.2.2.size)
            have k3_0 : Blk w3 w.heap.size 70 #[.int .i64 a, .int .i64 b, .int .i64 c, .int .i64 d] := HJ.out.1.below hb HJ.out.1.lt
            have k3_1 : Blk w3 (w.heap.size + 1) 58 #[.int .i64 px, .int .i64 py] := HJ.out.2.1.below hb HJ.out.2.1.lt
            have k3_2 : Blk w3 (w.heap.size + 1 + 1) 58 #[.int .i64 qx, .int .i64 qy] := HJ.out.2.2.1.below hb HJ.out.2.2.1.lt
            have c3_0 := k3_0.cell
            have c3_1 := k3_1.cell
            have c3_2 := k3_2.cell
            have l3_0 := k3_0.lt
            have l3_1 := k3_1.lt
            have l3_2 := k3_2.lt
            clear hb g0 g1 g2 m0 m1 m2
            go_wp2_with fail
            refine (C4.out _).mono ?_
            rintro e w4 ⟨rfl, hb⟩
            have hB4 : Below w.heap.size w w4 := hB3.trans (hb.mono hB3.size)
            have k4_0 : Blk w4 w.heap.size 70 #[.int .i64 a, .int .i64 b, .int .i64 c, .int .i64 d] := k3_0.below hb k3_0.lt
            have k4_1 : Blk w4 (w.heap.size + 1) 58 #[.int .i64 px, .int .i64 py] := k3_1.below hb k3_1.lt
            have k4_2 : Blk w4 (w.heap.size + 1 + 1) 58 #[.int .i64 qx, .int .i64 qy] := k3_2.below hb k3_2.lt
            have c4_0 := k4_0.cell
            have c4_1 := k4_1.cell
            have c4_2 := k4_2.cell
            have l4_0 := k4_0.lt
            have l4_1 := k4_1.lt
            have l4_2 := k4_2.lt
            clear hb c3_0 l3_0 c3_1 l3_1 c3_2 l3_2
            go_wp2_with fail
            go_ret
            exact ⟨rfl, hB4⟩
          · rw [if_neg h2] at eK
            have d3 : decide (NQ ≤ R) = false := by simp; omega
            cases MT
            · rw [if_neg (by decide)] at eK
              subst eK
              go_wp2_with fail
              refine (C3.out _).mono ?_
              rintro e w3 ⟨rfl, hb⟩
              have hB3 : Below w.heap.size w w3 := HJ.out.2.2.2.trans (hb.mono HJ.out.2.2.2.size)
              have k3_0 : Blk w3 w.heap.size 70 #[.int .i64 a, .int .i64 b, .int .i64 c, .int .i64 d] := HJ.out.1.below hb HJ.out.1.lt
              have k3_1 : Blk w3 (w.heap.size + 1) 58 #[.int .i64 px, .int .i64 py] := HJ.out.2.1.below hb HJ.out.2.1.lt
              have k3_2 : Blk w3 (w.heap.size + 1 + 1) 58 #[.int .i64 qx, .int .i64 qy] := HJ.out.2.2.1.below hb HJ.out.2.2.1.lt
              have c3_0 := k3_0.cell
              have c3_1 := k3_1.cell
              have c3_2 := k3_2.cell
              have l3_0 := k3_0.lt
              have l3_1 := k3_1.lt
              have l3_2 := k3_2.lt
              clear hb g0 g1 g2 m0 m1 m2
              go_wp2_with fail
              refine (C4.out _).mono ?_
              rintro e w4 ⟨rfl, hb⟩
              have hB4 : Below w.heap.size w w4 := hB3.trans (hb.mono hB3.size)
              have k4_0 : Blk w4 w.heap.size 70 #[.int .i64 a, .int .i64 b, .int .i64 c, .int .i64 d] := k3_0.below hb k3_0.lt
              have k4_1 : Blk w4 (w.heap.size + 1) 58 #[.int .i64 px, .int .i64 py] := k3_1.below hb k3_1.lt
              have k4_2 : Blk w4 (w.heap.size + 1 + 1) 58 #[.int .i64 qx, .int .i64 qy] := k3_2.below hb k3_2.lt
              have c4_0 := k4_0.cell
              have c4_1 := k4_1.cell
              have c4_2 := k4_2.cell
              have l4_0 := k4_0.lt
              have l4_1 := k4_1.lt
              have l4_2 := k4_2.lt
              clear hb c3_0 l3_0 c3_1 l3_1 c3_2 l3_2
              go_wp2_with fail
              refine (C5.out _).mono ?_
              rintro e w5 ⟨rfl, hb⟩
              have hB5 : Below w.heap.size w w5 := hB4.trans (hb.mono hB4.size)
              have k5_0 : Blk w5 w.heap.size 70 #[.int .i64 a, .int .i64 b, .int .i64 c, .int .i64 d] := k4_0.below hb k4_0.lt
              have k5_1 : Blk w5 (w.heap.size + 1) 58 #[.int .i64 px, .int .i64 py] := k4_1.below hb k4_1.lt
              have k5_2 : Blk w5 (w.heap.size + 1 + 1) 58 #[.int .i64 qx, .int .i64 qy] := k4_2.below hb k4_2.lt
              have c5_0 := k5_0.cell
              have c5_1 := k5_1.cell
              have c5_2 := k5_2.cell
              have l5_0 := k5_0.lt
              have l5_1 := k5_1.lt
              have l5_2 := k5_2.lt
              clear hb c4_0 l4_0 c4_1 l4_1 c4_2 l4_2
              go_wp2_with fail
              go_ret
              exact ⟨rfl, hB5⟩
            · rw [if_pos rfl] at eK
              subst eK
              go_wp2_with fail
              refine (C3.out _).mono ?_
              rintro e w3 ⟨rfl, hb⟩
              have hB3 : Below w.heap.size w w3 := HJ.out.2.2.2.trans (hb.mono HJ.out.2.2.2.size)
              have k3_0 : Blk w3 w.heap.size 70 #[.int .i64 a, .int .i64 b, .int .i64 c, .int .i64 d] := HJ.out.1.below hb HJ.out.1.lt
              have k3_1 : Blk w3 (w.heap.size + 1) 58 #[.int .i64 px, .int .i64 py] := HJ.out.2.1.below hb HJ.out.2.1.lt
              have k3_2 : Blk w3 (w.heap.size + 1 + 1) 58 #[.int .i64 qx, .int .i64 qy] := HJ.out.2.2.1.below hb HJ.out.2.2.1.lt
              have c3_0 := k3_0.cell
              have c3_1 := k3_1.cell
              have c3_2 := k3_2.cell
              have l3_0 := k3_0.lt
              have l3_1 := k3_1.lt
              have l3_2 := k3_2.lt
              clear hb g0 g1 g2 m0 m1 m2
              go_wp2_with fail
              refine (C4.out _).mono ?_
              rintro e w4 ⟨rfl, hb⟩
              have hB4 : Below w.heap.size w w4 := hB3.trans (hb.mono hB3.size)
              have k4_0 : Blk w4 w.heap.size 70 #[.int .i64 a, .int .i64 b, .int .i64 c, .int .i64 d] := k3_0.below hb k3_0.lt
              have k4_1 : Blk w4 (w.heap.size + 1) 58 #[.int .i64 px, .int .i64 py] := k3_1.below hb k3_1.lt
              have k4_2 : Blk w4 (w.heap.size + 1 + 1) 58 #[.int .i64 qx, .int .i64 qy] := k3_2.below hb k3_2.lt
              have c4_0 := k4_0.cell
              have c4_1 := k4_1.cell
              have c4_2 := k4_2.cell
              have l4_0 := k4_0.lt
              have l4_1 := k4_1.lt
              have l4_2 := k4_2.lt
              clear hb c3_0 l3_0 c3_1 l3_1 c3_2 l3_2
              go_wp2_with fail
              refine (C5.out _).mono ?_
              rintro e w5 ⟨rfl, hb⟩
              have hB5 : Below w.heap.size w w5 := hB4.trans (hb.mono hB4.size)
              have k5_0 : Blk w5 w.heap.size 70 #[.int .i64 a, .int .i64 b, .int .i64 c, .int .i64 d] := k4_0.below hb k4_0.lt
              have k5_1 : Blk w5 (w.heap.size + 1) 58 #[.int .i64 px, .int .i64 py] := k4_1.below hb k4_1.lt
              have k5_2 : Blk w5 (w.heap.size + 1 + 1) 58 #[.int .i64 qx, .int .i64 qy] := k4_2.below hb k4_2.lt
              have c5_0 := k5_0.cell
              have c5_1 := k5_1.cell
              have c5_2 := k5_2.cell
              have l5_0 := k5_0.lt
              have l5_1 := k5_1.lt
              have l5_2 := k5_2.lt
              clear hb c4_0 l4_0 c4_1 l4_1 c4_2 l4_2
              go_wp2_with fail
              go_ret
              exact ⟨rfl, hB5⟩
end Go.Proofs.YtfajckkbinbpiaaGreatDoor
