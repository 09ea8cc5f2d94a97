/- Walk: the class of a box in a stroke, as the reference says. -/
import Derived.Test.YtfajckkbinbpiaaGreatDoorN23
namespace Go.Proofs.YtfajckkbinbpiaaGreatDoor
set_option maxRecDepth 100000
set_option maxHeartbeats 32000000
set_option linter.unusedVariables false
set_option linter.unusedSimpArgs false
open Go.RowKit Go.Sort
theorem crn_cor (a b c d : Int) (k : Nat) : crn a b c d k = cor a b c d k := by
  unfold crn
  match k with
  | 0 => rfl
  | 1 => rfl
  | 2 => rfl
  | k + 3 => rw [if_neg (by omega), if_neg (by omega), if_neg (by omega)]; rfl
theorem rline_c (a b c d px py qx qy r : Int) (w : World) (a_0 : -2000 ≤ a) (a_1 : a ≤ 2000) (b_0 : -2000 ≤ b) (b_1 : b ≤ 2000) (c_0 : -2000 ≤ c) (c_1 : c ≤ 2000) (d_0 : -2000 ≤ d) (d_1 : d ≤ 2000) (px_0 : -2000 ≤ px) (px_1 : px ≤ 2000) (py_0 : -2000 ≤ py) (py_1 : py ≤ 2000) (qx_0 : -2000 ≤ qx) (qx_1 : qx ≤ 2000) (qy_0 : -2000 ≤ qy) (qy_1 : qy ≤ 2000) (ac : a ≤ c) (bd : b ≤ d) (r_0 : 1 ≤ r) (r_1 : r ≤ 1000) :
    Calls Tryz.prog 80 #[.agg #[.int .i64 a, .int .i64 b, .int .i64 c, .int .i64 d], .agg #[.int .i64 px, .int .i64 py], .agg #[.int .i64 qx, .int .i64 qy], .int .i64 r] w fun e w' => e = .returned (.int .i64 (Geo.lineC ⟨a, b, c, d⟩ px py qx qy r)) ∧ Below w.heap.size w w' := by
  have nH := fun x y w hx0 hx1 hy0 hy1 => rlinehas_c x y px py qx qy r w hx0 hx1 hy0 hy1 px_0 px_1 py_0 py_1 qx_0 qx_1 qy_0 qy_1 r_0 r_1
  have nM := fun w => rmeets_c a b c d px py qx qy w a_0 a_1 b_0 b_1 c_0 c_1 d_0 d_1 px_0 px_1 py_0 py_1 qx_0 qx_1 qy_0 qy_1
  have nP := fun w => rnear_c a b c d px py w a_0 a_1 b_0 b_1 c_0 c_1 d_0 d_1 px_0 px_1 py_0 py_1 ac bd
  have nQ := fun w => rnear_c a b c d qx qy w a_0 a_1 b_0 b_1 c_0 c_1 d_0 d_1 qx_0 qx_1 qy_0 qy_1 ac bd
  have HR := Lib.hid (fun k => crn_rng k ⟨a_0, a_1⟩ ⟨b_0, b_1⟩ ⟨c_0, c_1⟩ ⟨d_0, d_1⟩)
  have HA := Lib.hid (crn_at a b c d)
  have sR := r_sq r_0 r_1
  obtain ⟨K, eK⟩ : ∃ K, Geo.lineC ⟨a, b, c, d⟩ px py qx qy r = K := ⟨_, rfl⟩
  rw [eK]
  rw [lineC_eq] at eK
  obtain ⟨HH, eHH⟩ : ∃ K, hasAt a b c d px py qx qy r = K := ⟨_, rfl⟩
  obtain ⟨NP, eNP⟩ : ∃ N, Geo.near2 a b c d px py = N := ⟨_, rfl⟩
  obtain ⟨NQ, eNQ⟩ : ∃ N, Geo.near2 a b c d qx qy = N := ⟨_, rfl⟩
  obtain ⟨R, eR⟩ : ∃ N, r * r = N := ⟨_, rfl⟩
  obtain ⟨MT, eMT⟩ : ∃ N, Geo.meets ⟨a, b, c, d⟩ ((px, py), (qx, qy)) = N := ⟨_, rfl⟩
  have hK : ∀ k, decide (Geo.HasL px py qx qy r (crn a b c d k).1 (crn a b c d k).2) = HH k := by rw [← eHH]; intro k; rw [crn_cor]; rfl
  rw [eHH, eNP, eNQ, eR, eMT] at eK
  rw [eNP] at nP
  rw [eNQ] at nQ
  rw [eMT] at nM
  rw [eR] at sR
  have sR2 : IntKind.i64.wrap (r * r) = R := by rw [eR]; exact sR
  have d9 : decide (r < 1) = false := by simp; omega
  have CH := Lib.hid nH
  have CM := Lib.hid nM
  have CP := Lib.hid nP
  have CQ := Lib.hid nQ
  have CK := Lib.hid hK
  have EK := Lib.hid eK
  clear nH nM nP nQ hK eK eHH eNP eNQ eR eMT sR a_0 a_1 b_0 b_1 c_0 c_1 d_0 d_1 px_0 px_1 py_0 py_1 qx_0 qx_1 qy_0 qy_1
  go_enter Tryz.func80, Tryz.ntmps80
  go_wp2_with fail
  refine (rcorners_c _ _ _ _ _).mono ?_
  rintro e z2 ⟨rfl, hb⟩
  obtain ⟨g, eg⟩ : ∃ g, z2.alloc (.cells #[.int .i64 a, .int .i64 b, .int .i64 c, .int .i64 b, .int .i64 a, .int .i64 d, .int .i64 c, .int .i64 d] 236) = g := ⟨_, rfl⟩
  have hB2 : Below w.heap.size w z2 := Below.trans (by exact blw) (hb.mono (by first | omega | (simp; done) | (simp; omega)))
  have jB : Blk z2 w.heap.size 70 #[.int .i64 a, .int .i64 b, .int .i64 c, .int .i64 d] := Blk.below (by exact bkw) hb (by first | omega | (simp; done) | (simp; omega))
  have jP : Blk z2 (w.heap.size + 1) 58 #[.int .i64 px, .int .i64 py] := Blk.below (by exact bkw) hb (by first | omega | (simp; done) | (simp; omega))
  have jQ : Blk z2 (w.heap.size + 1 + 1) 58 #[.int .i64 qx, .int .i64 qy] := Blk.below (by exact bkw) hb (by first | omega | (simp; done) | (simp; omega))
  have hBg : Below w.heap.size w g := by rw [← eg]; exact hB2.alloc hB2.size _
  have kB : Blk g w.heap.size 70 #[.int .i64 a, .int .i64 b, .int .i64 c, .int .i64 d] := by rw [← eg]; exact jB.alloc _
  have kP : Blk g (w.heap.size + 1) 58 #[.int .i64 px, .int .i64 py] := by rw [← eg]; exact jP.alloc _
  have kQ : Blk g (w.heap.size + 1 + 1) 58 #[.int .i64 qx, .int .i64 qy] := by rw [← eg]; exact jQ.alloc _
  have kC : Blk g z2.heap.size 236 #[.int .i64 a, .int .i64 b, .int .i64 c, .int .i64 b, .int .i64 a, .int .i64 d, .int .i64 c, .int .i64 d] := by rw [← eg]; exact Blk.new _ _ _
  have EG := Lib.hid eg
  have HBG := Lib.hid hBg
  have KB := Lib.hid kB
  have KP := Lib.hid kP
  have KQ := Lib.hid kQ
  have KC := Lib.hid kC
  have sg := hBg.size
  clear hb hB2 hBg jB jP jQ kB kP kQ kC eg
  go_wp2_with fail
  rw [EG.out]
  go_loopw [10, 11] (fun nv iv wr => ∃ k : Nat, iv = .int .i64 (k : Int) ∧ nv = .int .i64 (inN HH k) ∧ k ≤ 4 ∧ Below g.heap.size g wr) (fun nv iv wr => 4 - (intOf iv).toNat)
  case atStart => exact ⟨0, rfl, rfl, by omega, Below.refl _ _⟩
  case round =>
  obtain ⟨k, rfl, rfl, hk, hBw⟩ := hrel
  have pr := inN_range HH k
  obtain ⟨pr0, pr1⟩ := pr
  by_cases hlt : k < 4
  · obtain ⟨x1, x2⟩ := HA.out k hlt
    obtain ⟨⟨g0, g1⟩, g2, g3⟩ := HR.out k
    have hcr := fun w => CH.out _ _ w g0 g1 g2 g3
    rw [CK.out k] at hcr
    have ps : inN HH (k + 1) = inN HH k + if HH k = true then 1 else 0 := rfl
    obtain ⟨Z, eZ⟩ : ∃ Z, HH k = Z := ⟨_, rfl⟩
    rw [eZ] at hcr ps
    obtain ⟨PN, ePN⟩ : ∃ C, inN HH k = C := ⟨_, rfl⟩
    rw [ePN] at ps pr0 pr1
    rw [ePN]
    obtain ⟨cx, ecx⟩ : ∃ x, (crn a b c d k).1 = x := ⟨_, rfl⟩
    obtain ⟨cy, ecy⟩ : ∃ x, (crn a b c d k).2 = x := ⟨_, rfl⟩
    rw [ecx, ecy] at hcr
    rw [ecx] at x1
    rw [ecy] at x2
    have jP := KP.out.below hBw KP.out.lt
    have jQ := KQ.out.below hBw KQ.out.lt
    have jC := KC.out.below hBw KC.out.lt
    have lP := jP.lt
    have lQ := jQ.lt
    have lC := jC.lt
    have y0 := cell_regrown (show wr.cell? ⟨w.heap.size + 1, 0, none⟩ = some (.int .i64 px) from jP.cell 0)
    have y1 := cell_regrown (show wr.cell? ⟨w.heap.size + 1, 1, none⟩ = some (.int .i64 py) from jP.cell 1)
    have y2 := cell_regrown (show wr.cell? ⟨w.heap.size + 1 + 1, 0, none⟩ = some (.int .i64 qx) from jQ.cell 0)
    have y3 := cell_regrown (show wr.cell? ⟨w.heap.size + 1 + 1, 1, none⟩ = some (.int .i64 qy) from jQ.cell 1)
    have y4 := cell_regrown (show wr.cell? ⟨z2.heap.size, k * 2, none⟩ = some (.int .i64 cx) from (jC.cell _).trans x1)
    have y5 := cell_regrown (show wr.cell? ⟨z2.heap.size, k * 2 + 1, none⟩ = some (.int .i64 cy) from (jC.cell _).trans x2)
    have HC := Lib.hid hcr
    have m1 : ∀ d' os, Calls Tryz.prog 126 #[.agg #[.int .i64 cx, .int .i64 cy], .agg #[.int .i64 px, .int .i64 py], .agg #[.int .i64 qx, .int .i64 qy], .int .i64 r] (Go.Sort.grow (redrawn wr d') os) fun e w'' => e = .returned (.bool Z) ∧ ∃ p : Regrown, w'' = Go.Sort.grow (redrawn wr p.d) p.os := fun d' os => Calls.regrown_of (HC.out _)
    have M1 := Lib.hid m1
    have ST := Lib.hid ps
    have HBW := Lib.hid hBw
    have sw := hBw.size
    have k4 : (k : Int) < 4 := by omega
    clear x1 x2 g0 g1 g2 g3 hcr eZ ps ePN ecx ecy jP jQ jC m1 hBw
    go_wp2_with fail
    refine wp_region_quiet_below (by kernel_rfl) (by kernel_rfl) ?_
    repeat (any_goals (first | go_big_quiet_step (first | (with_reducible exact M1.out _ _)) | quiet_step (first | (with_reducible exact M1.out _ _))))
    refine wpQuiet_nil ?_
    intro w1 hw'
    have hb : Below wr.heap.size wr w1 := by obtain ⟨p, rfl⟩ := hw'; exact below_regrown _ _ _
    have HB9 := Lib.hid (HBW.out.trans (hb.mono sw))
    clear hw' hb y0 y1 y2 y3 y4 y5
    cases Z
    · go_wp2_with fail
      go_roundw
      case rel =>
        have hr2 : ∃ k' : Nat, Value.int .i64 ((k : Int) + 1) = .int .i64 (k' : Int) ∧ Value.int .i64 PN = .int .i64 (inN HH k') ∧ k' ≤ 4 ∧ Below g.heap.size g w1 :=
          ⟨k + 1, by go_num, by rw [ST.out, if_neg (by decide)]; go_num, by omega, HB9.out⟩
        first | exact hr2 | ((repeat apply Exists.intro); exact ⟨hr2, rfl⟩)
      case measure => simp [intOf]; omega
    · go_wp2_with fail
      go_roundw
      case rel =>
        have hr2 : ∃ k' : Nat, Value.int .i64 ((k : Int) + 1) = .int .i64 (k' : Int) ∧ Value.int .i64 (PN + 1) = .int .i64 (inN HH k') ∧ k' ≤ 4 ∧ Below g.heap.size g w1 :=
          ⟨k + 1, by go_num, by rw [ST.out]; simp, by omega, HB9.out⟩
        first | exact hr2 | ((repeat apply Exists.intro); exact ⟨hr2, rfl⟩)
      case measure => simp [intOf]; omega
  · obtain rfl : k = 4 := by omega
    have eK := EK.out
    obtain ⟨PN, ePN⟩ : ∃ C, inN HH 4 = C := ⟨_, rfl⟩
    rw [ePN] at eK pr0 pr1 ⊢
    have hB0 := HBG.out.trans (hBw.mono sg)
    have k0_0 := KB.out.below hBw KB.out.lt
    have k0_1 := KP.out.below hBw KP.out.lt
    have k0_2 := KQ.out.below hBw KQ.out.lt
    have c0_0 := k0_0.cell
    have c0_1 := k0_1.cell
    have c0_2 := k0_2.cell
    have l0_0 := k0_0.lt
    have l0_1 := k0_1.lt
    have l0_2 := k0_2.lt
    clear ePN hlt hk hBw
    by_cases h4 : PN = 4
    · rw [if_pos h4] at eK
      subst eK
      have HBB := Lib.hid hB0
      clear k0_0 k0_1 k0_2 c0_0 c0_1 c0_2 l0_0 l0_1 l0_2 hB0
      go_wp2_with fail
      go_ret
      exact ⟨rfl, HBB.out⟩
    · rw [if_neg h4] at eK
      have d0 : ((PN : Int) == 4) = false := by simp; omega
      by_cases h0 : 0 < PN
      · rw [if_pos h0] at eK
        subst eK
        have d1 : decide (0 < PN) = true := by simp; omega
        have HBB := Lib.hid hB0
        clear k0_0 k0_1 k0_2 c0_0 c0_1 c0_2 l0_0 l0_1 l0_2 hB0
        go_wp2_with fail
        go_ret
        exact ⟨rfl, HBB.out⟩
      · rw [if_neg h0] at eK
        have d1 : decide (0 < PN) = false := by simp; omega
        cases MT
        · by_cases h1 : NP ≤ R
          · rw [if_pos h1] at eK
            subst eK
            have d2 : decide (NP ≤ R) = true := by simp; omega
            go_wp2_with fail
            refine (CM.out _).mono ?_
            rintro e w1 ⟨rfl, hb⟩
            have hB1 : Below w.heap.size w w1 := hB0.trans (hb.mono hB0.size)
            have k1_0 : Blk w1 (w.heap.size) 70 #[.int .i64 a, .int .i64 b, .int .i64 c, .int .i64 d] := k0_0.below hb k0_0.lt
            have k1_1 : Blk w1 (w.heap.size + 1) 58 #[.int .i64 px, .int .i64 py] := k0_1.below hb k0_1.lt
            have k1_2 : Blk w1 (w.heap.size + 1 + 1) 58 #[.int .i64 qx, .int .i64 qy] := k0_2.below hb k0_2.lt
            have c1_0 := k1_0.cell
            have l1_0 := k1_0.lt
            have c1_1 := k1_1.cell
            have l1_1 := k1_1.lt
            have c1_2 := k1_2.cell
            have l1_2 := k1_2.lt
            clear hb c0_0 l0_0 k0_0 c0_1 l0_1 k0_1 c0_2 l0_2 k0_2
            go_wp2_with fail
            refine (CP.out _).mono ?_
            rintro e w2 ⟨rfl, hb⟩
            have hB2 : Below w.heap.size w w2 := hB1.trans (hb.mono hB1.size)
            have k2_0 : Blk w2 (w.heap.size) 70 #[.int .i64 a, .int .i64 b, .int .i64 c, .int .i64 d] := k1_0.below hb k1_0.lt
            have k2_1 : Blk w2 (w.heap.size + 1) 58 #[.int .i64 px, .int .i64 py] := k1_1.below hb k1_1.lt
            have k2_2 : Blk w2 (w.heap.size + 1 + 1) 58 #[.int .i64 qx, .int .i64 qy] := k1_2.below hb k1_2.lt
            have c2_0 := k2_0.cell
            have l2_0 := k2_0.lt
            have c2_1 := k2_1.cell
            have l2_1 := k2_1.lt
            have c2_2 := k2_2.cell
            have l2_2 := k2_2.lt
            clear hb c1_0 l1_0 k1_0 c1_1 l1_1 k1_1 c1_2 l1_2 k1_2
            go_wp2_with fail
            go_ret
            exact ⟨rfl, hB2⟩
          · rw [if_neg h1] at eK
            have d2 : decide (NP ≤ R) = false := by simp; omega
            by_cases h2 : NQ ≤ R
            · rw [if_pos h2] at eK
              subst eK
              have d3 : decide (NQ ≤ R) = true := by simp; omega
              go_wp2_with fail
              refine (CM.out _).mono ?_
              rintro e w1 ⟨rfl, hb⟩
              have hB1 : Below w.heap.size w w1 := hB0.trans (hb.mono hB0.size)
              have k1_0 : Blk w1 (w.heap.size) 70 #[.int .i64 a, .int .i64 b, .int .i64 c, .int .i64 d] := k0_0.below hb k0_0.lt
              have k1_1 : Blk w1 (w.heap.size + 1) 58 #[.int .i64 px, .int .i64 py] := k0_1.below hb k0_1.lt
              have k1_2 : Blk w1 (w.heap.size + 1 + 1) 58 #[.int .i64 qx, .int .i64 qy] := k0_2.below hb k0_2.lt
              have c1_0 := k1_0.cell
              have l1_0 := k1_0.lt
              have c1_1 := k1_1.cell
              have l1_1 := k1_1.lt
              have c1_2 := k1_2.cell
              have l1_2 := k1_2.lt
              clear hb c0_0 l0_0 k0_0 c0_1 l0_1 k0_1 c0_2 l0_2 k0_2
              go_wp2_with fail
              refine (CP.out _).mono ?_
              rintro e w2 ⟨rfl, hb⟩
              have hB2 : Below w.heap.size w w2 := hB1.trans (hb.mono hB1.size)
              have k2_0 : Blk w2 (w.heap.size) 70 #[.int .i64 a, .int .i64 b, .int .i64 c, .int .i64 d] := k1_0.below hb k1_0.lt
              have k2_1 : Blk w2 (w.heap.size + 1) 58 #[.int .i64 px, .int .i64 py] := k1_1.below hb k1_1.lt
              have k2_2 : Blk w2 (w.heap.size + 1 + 1) 58 #[.int .i64 qx, .int .i64 qy] := k1_2.below hb k1_2.lt
              have c2_0 := k2_0.cell
              have l2_0 := k2_0.lt
              have c2_1 := k2_1.cell
              have l2_1 := k2_1.lt
              have c2_2 := k2_2.cell
              have l2_2 := k2_2.lt
              clear hb c1_0 l1_0 k1_0 c1_1 l1_1 k1_1 c1_2 l1_2 k1_2
              go_wp2_with fail
              refine (CQ.out _).mono ?_
              rintro e w3 ⟨rfl, hb⟩
              have hB3 : Below w.heap.size w w3 := hB2.trans (hb.mono hB2.size)
              have k3_0 : Blk w3 (w.heap.size) 70 #[.int .i64 a, .int .i64 b, .int .i64 c, .int .i64 d] := k2_0.below hb k2_0.lt
              have k3_1 : Blk w3 (w.heap.size + 1) 58 #[.int .i64 px, .int .i64 py] := k2_1.below hb k2_1.lt
              have k3_2 : Blk w3 (w.heap.size + 1 + 1) 58 #[.int .i64 qx, .int .i64 qy] := k2_2.below hb k2_2.lt
              have c3_0 := k3_0.cell
              have l3_0 := k3_0.lt
              have c3_1 := k3_1.cell
              have l3_1 := k3_1.lt
              have c3_2 := k3_2.cell
              have l3_2 := k3_2.lt
              clear hb c2_0 l2_0 k2_0 c2_1 l2_1 k2_1 c2_2 l2_2 k2_2
              go_wp2_with fail
              go_ret
              exact ⟨rfl, hB3⟩
            · rw [if_neg h2, if_neg (by decide)] at eK
              subst eK
              have d3 : decide (NQ ≤ R) = false := by simp; omega
              go_wp2_with fail
              refine (CM.out _).mono ?_
              rintro e w1 ⟨rfl, hb⟩
              have hB1 : Below w.heap.size w w1 := hB0.trans (hb.mono hB0.size)
              have k1_0 : Blk w1 (w.heap.size) 70 #[.int .i64 a, .int .i64 b, .int .i64 c, .int .i64 d] := k0_0.below hb k0_0.lt
              have k1_1 : Blk w1 (w.heap.size + 1) 58 #[.int .i64 px, .int .i64 py] := k0_1.below hb k0_1.lt
              have k1_2 : Blk w1 (w.heap.size + 1 + 1) 58 #[.int .i64 qx, .int .i64 qy] := k0_2.below hb k0_2.lt
              have c1_0 := k1_0.cell
              have l1_0 := k1_0.lt
              have c1_1 := k1_1.cell
              have l1_1 := k1_1.lt
              have c1_2 := k1_2.cell
              have l1_2 := k1_2.lt
              clear hb c0_0 l0_0 k0_0 c0_1 l0_1 k0_1 c0_2 l0_2 k0_2
              go_wp2_with fail
              refine (CP.out _).mono ?_
              rintro e w2 ⟨rfl, hb⟩
              have hB2 : Below w.heap.size w w2 := hB1.trans (hb.mono hB1.size)
              have k2_0 : Blk w2 (w.heap.size) 70 #[.int .i64 a, .int .i64 b, .int .i64 c, .int .i64 d] := k1_0.below hb k1_0.lt
              have k2_1 : Blk w2 (w.heap.size + 1) 58 #[.int .i64 px, .int .i64 py] := k1_1.below hb k1_1.lt
              have k2_2 : Blk w2 (w.heap.size + 1 + 1) 58 #[.int .i64 qx, .int .i64 qy] := k1_2.below hb k1_2.lt
              have c2_0 := k2_0.cell
              have l2_0 := k2_0.lt
              have c2_1 := k2_1.cell
              have l2_1 := k2_1.lt
              have c2_2 := k2_2.cell
              have l2_2 := k2_2.lt
              clear hb c1_0 l1_0 k1_0 c1_1 l1_1 k1_1 c1_2 l1_2 k1_2
              go_wp2_with fail
              refine (CQ.out _).mono ?_
              rintro e w3 ⟨rfl, hb⟩
              have hB3 : Below w.heap.size w w3 := hB2.trans (hb.mono hB2.size)
              have k3_0 : Blk w3 (w.heap.size) 70 #[.int .i64 a, .int .i64 b, .int .i64 c, .int .i64 d] := k2_0.below hb k2_0.lt
              have k3_1 : Blk w3 (w.heap.size + 1) 58 #[.int .i64 px, .int .i64 py] := k2_1.below hb k2_1.lt
              have k3_2 : Blk w3 (w.heap.size + 1 + 1) 58 #[.int .i64 qx, .int .i64 qy] := k2_2.below hb k2_2.lt
              have c3_0 := k3_0.cell
              have l3_0 := k3_0.lt
              have c3_1 := k3_1.cell
              have l3_1 := k3_1.lt
              have c3_2 := k3_2.cell
              have l3_2 := k3_2.lt
              clear hb c2_0 l2_0 k2_0 c2_1 l2_1 k2_1 c2_2 l2_2 k2_2
              go_wp2_with fail
              go_ret
              exact ⟨rfl, hB3⟩
        · have eK2 : (1 : Int) = K := by rw [← eK]; split; rfl; split; rfl; rfl
          subst eK2
          clear eK
          go_wp2_with fail
          refine (CM.out _).mono ?_
          rintro e w1 ⟨rfl, hb⟩
          have hB1 : Below w.heap.size w w1 := hB0.trans (hb.mono hB0.size)
          have k1_0 : Blk w1 (w.heap.size) 70 #[.int .i64 a, .int .i64 b, .int .i64 c, .int .i64 d] := k0_0.below hb k0_0.lt
          have k1_1 : Blk w1 (w.heap.size + 1) 58 #[.int .i64 px, .int .i64 py] := k0_1.below hb k0_1.lt
          have k1_2 : Blk w1 (w.heap.size + 1 + 1) 58 #[.int .i64 qx, .int .i64 qy] := k0_2.below hb k0_2.lt
          have c1_0 := k1_0.cell
          have l1_0 := k1_0.lt
          have c1_1 := k1_1.cell
          have l1_1 := k1_1.lt
          have c1_2 := k1_2.cell
          have l1_2 := k1_2.lt
          clear hb c0_0 l0_0 k0_0 c0_1 l0_1 k0_1 c0_2 l0_2 k0_2
          go_wp2_with fail
          go_ret
          exact ⟨rfl, hB1⟩
end Go.Proofs.YtfajckkbinbpiaaGreatDoor
