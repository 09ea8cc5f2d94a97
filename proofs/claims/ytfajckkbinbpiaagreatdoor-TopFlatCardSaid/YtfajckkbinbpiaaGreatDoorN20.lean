/- Walks: contours: does an edge touch a box? -/
import Derived.LoopTactic
import Derived.Test.YtfajckkbinbpiaaGreatDoorN19
namespace Go.Proofs.YtfajckkbinbpiaaGreatDoor
set_option maxRecDepth 100000
set_option maxHeartbeats 32000000
set_option linter.unusedVariables false
set_option linter.unusedSimpArgs false
open Go.RowKit
theorem rem_next (q m : Nat) : ((q : Int) + 1) % (m : Int) = (((q + 1) % m : Nat) : Int) := by
  simp
theorem touches_c (a b c d : Int) (S : List Nat) (v : Value) (l : List (List Geo.Pt)) (w : World) (hP : PolyAt S w v l) (hF : FarOk l) (hl : l.length ≤ 100000) (hc : ∀ c ∈ l, c.length ≤ 100000) (a_0 : -536870912 ≤ a) (a_1 : a ≤ 536870912) (b_0 : -536870912 ≤ b) (b_1 : b ≤ 536870912) (c_0 : -536870912 ≤ c) (c_1 : c ≤ 536870912) (d_0 : -536870912 ≤ d) (d_1 : d ≤ 536870912) (ac : a ≤ c) (bd : b ≤ d) :
    Calls Tryz.prog 285 #[.agg #[.int .i64 a, .int .i64 b, .int .i64 c, .int .i64 d], v] w fun e w' => e = .returned (.bool ((Geo.edges l).any (Geo.meets ⟨a, b, c, d⟩))) ∧ Below w.heap.size w w' := by
  have n1 := fun px py qx qy w (h1 : -536870912 ≤ px) h2 (h3 : -536870912 ≤ py) h4 (h5 : -536870912 ≤ qx) h6 (h7 : -536870912 ≤ qy) h8 => meets_c a b c d px py qx qy w a_0 a_1 b_0 b_1 c_0 c_1 d_0 d_1 h1 h2 h3 h4 h5 h6 h7 h8 ac bd
  have C1 := Lib.hid n1
  clear n1 a_0 a_1 b_0 b_1 c_0 c_1 d_0 d_1
  obtain ⟨F, eF⟩ : ∃ F, Geo.meets ⟨a, b, c, d⟩ = F := ⟨_, rfl⟩
  rw [eF]
  have EF := Lib.hid eF
  clear eF
  obtain ⟨p, cap, rfl, hp⟩ := hP
  obtain ⟨n, en⟩ : ∃ n, l.length = n := ⟨_, rfl⟩
  have PA : Hid (PolyAt S w (.slice p n cap) l) := Lib.hid ⟨p, cap, by rw [en], hp⟩
  have HF := Lib.hid hF
  have HL := Lib.hid en
  have HC := Lib.hid hc
  rw [en] at hl ⊢
  clear hp hF en hc
  go_enter Tryz.func285, Tryz.ntmps285
  go_wp2_with fail
  go_loopw [11] (fun i wr => ∃ k : Nat, i = .int .i64 (k : Int) ∧ k ≤ n ∧ Blk wr w.heap.size 70 #[.int .i64 a, .int .i64 b, .int .i64 c, .int .i64 d] ∧ Below w.heap.size w wr ∧ (Geo.edges (l.take k)).any F = false) (fun i wr => n - (intOf i).toNat)
  case atStart => exact ⟨0, rfl, Nat.zero_le _, by exact bkw, by exact blw, by simp [Geo.edges]⟩
  case round =>
  obtain ⟨k, rfl, hk, j0, hB, hE⟩ := hrel
  by_cases hlt : k < n
  · have hkl : k < l.length := by rw [HL.out]; exact hlt
    obtain ⟨p1, cap1, e1, h1⟩ := PA.out.below hB (Nat.le_refl _)
    obtain ⟨g1, rfl, _, lg1, h1⟩ := h1 (by intro e; rw [e] at hkl; simp at hkl)
    injection e1 with e1 e1n e1'
    subst e1 e1'
    clear e1n
    obtain ⟨u, hu, p2, cap2, rfl, h2⟩ := h1 k hkl
    obtain ⟨m, em⟩ : ∃ m, (l[k]).length = m := ⟨_, rfl⟩
    have hm : m ≤ 100000 := by rw [← em]; exact HC.out _ (List.getElem_mem hkl)
    rw [em] at hu
    have PT : Hid (PtsAt S wr (.slice p2 m cap2) l[k]) := Lib.hid ⟨p2, cap2, by rw [em], h2⟩
    have EM := Lib.hid em
    have J0 := Lib.hid j0
    have HB := Lib.hid hB
    have HE := Lib.hid hE
    have hw := hB.size
    obtain ⟨WR, eWR⟩ : ∃ W, wr = W := ⟨_, rfl⟩
    rw [eWR] at PT J0 HB hw hu
    rw [eWR]
    clear eWR h1 h2 em j0 hB hE
    go_wp2_with fail
    go_loopw [17] (fun j wx => ∃ q : Nat, j = .int .i64 (q : Int) ∧ q ≤ m ∧ Blk wx w.heap.size 70 #[.int .i64 a, .int .i64 b, .int .i64 c, .int .i64 d] ∧ Below w.heap.size w wx ∧ Below WR.heap.size WR wx ∧ ((Geo.ring l[k]).take q).any F = false) (fun j wx => m - (intOf j).toNat)
    case atStart => exact ⟨0, rfl, Nat.zero_le _, J0.out, HB.out, Below.refl _ _, by simp⟩
    case round =>
    obtain ⟨q, rfl, hq, j0, hB, hB2, hE⟩ := hrel
    by_cases hlq : q < m
    · have hql : q < (l[k]).length := by rw [EM.out]; exact hlq
      obtain ⟨p3, cap3, e3, h3⟩ := PT.out.below hB2 (Nat.le_refl _)
      obtain ⟨g2, rfl, _, lg2, h3⟩ := h3 (by intro e; rw [e] at hql; simp at hql)
      injection e3 with e3 e3n e3'
      subst e3 e3'
      clear e3n
      have hr : (q + 1) % m < m := Nat.mod_lt _ (by omega)
      obtain ⟨r, er⟩ : ∃ r, (q + 1) % m = r := ⟨_, rfl⟩
      rw [er] at hr
      have hrl : r < (l[k]).length := by rw [EM.out]; exact hr
      obtain ⟨x0, x1⟩ := h3 q hql
      obtain ⟨y0, y1⟩ := h3 r hrl
      obtain ⟨⟨b1, b2⟩, b3, b4⟩ := HF.out.at hkl hql
      obtain ⟨⟨b5, b6⟩, b7, b8⟩ := HF.out.at hkl hrl
      have hm1 := fun w => C1.out _ _ _ _ w b1 b2 b3 b4 b5 b6 b7 b8
      have eq2 : (l[k])[(q + 1) % (l[k]).length]'(Nat.mod_lt _ (by omega)) = (l[k])[r] := by simp only [EM.out, er]
      obtain ⟨P, eP⟩ : ∃ P, (l[k])[q] = P := ⟨_, rfl⟩
      obtain ⟨Q, eQ⟩ : ∃ P, (l[k])[r] = P := ⟨_, rfl⟩
      have hhit : F (P, Q) = true → (Geo.edges l).any F = true := fun h => by
        refine any_hit hkl hql ?_
        rw [eq2, eP, eQ]; exact h
      have hmiss : F (P, Q) = false → ((Geo.ring l[k]).take (q + 1)).any F = false := fun h => by
        refine any_take hql hE ?_
        rw [eq2, eP, eQ]; exact h
      rw [eP] at x0 x1 hm1
      rw [eQ] at y0 y1 hm1
      rw [EF.out] at hm1
      obtain ⟨P1, P2⟩ := P
      obtain ⟨Q1, Q2⟩ := Q
      simp only [] at x0 x1 y0 y1 hm1
      obtain ⟨T, eT⟩ : ∃ T, F ((P1, P2), (Q1, Q2)) = T := ⟨_, rfl⟩
      rw [eT] at hm1 hhit hmiss
      have HM1 := Lib.hid hm1
      have HHIT := Lib.hid hhit
      have HMISS := Lib.hid hmiss
      have hrem := rem_next q m
      rw [er] at hrem
      have J0 := Lib.hid j0
      have HB := Lib.hid hB
      have HB2 := Lib.hid hB2
      have lb := j0.lt
      have hwx := hB.size
      clear h3 b1 b2 b3 b4 b5 b6 b7 b8 hm1 eq2 eP eQ eT hhit hmiss j0 hB hB2 hE er
      go_wp2_with fail
      obtain ⟨vv, ev⟩ : ∃ v, wr.alloc (.cells #[.int .i64 P1, .int .i64 P2] 58) = v := ⟨_, rfl⟩
      have bv : Below wr.heap.size wr vv := by rw [← ev]; exact blw
      have kp : Blk vv wr.heap.size 58 #[.int .i64 P1, .int .i64 P2] := by rw [← ev]; exact bkw
      have kb := J0.out.below bv lb
      have sv := bv.size
      rw [ev]
      have z0 := cell_regrown (show vv.cell? ⟨w.heap.size, 0, none⟩ = some (.int .i64 a) from kb.cell 0)
      have z1 := cell_regrown (show vv.cell? ⟨w.heap.size, 1, none⟩ = some (.int .i64 b) from kb.cell 1)
      have z2 := cell_regrown (show vv.cell? ⟨w.heap.size, 2, none⟩ = some (.int .i64 c) from kb.cell 2)
      have z3 := cell_regrown (show vv.cell? ⟨w.heap.size, 3, none⟩ = some (.int .i64 d) from kb.cell 3)
      have z4 := cell_regrown (show vv.cell? ⟨wr.heap.size, 0, none⟩ = some (.int .i64 P1) from kp.cell 0)
      have z5 := cell_regrown (show vv.cell? ⟨wr.heap.size, 1, none⟩ = some (.int .i64 P2) from kp.cell 1)
      have z6 := cell_regrown (show vv.cell? ⟨g2, r * 2, none⟩ = some (.int .i64 Q1) from ((bcell bv).1 _ _ (blk_of_cell y0)).trans y0)
      have z7 := cell_regrown (show vv.cell? ⟨g2, r * 2 + 1, none⟩ = some (.int .i64 Q2) from ((bcell bv).1 _ _ (blk_of_cell y0)).trans y1)
      have m1 : ∀ d' os, Calls Tryz.prog 290 #[.agg #[.int .i64 a, .int .i64 b, .int .i64 c, .int .i64 d], .agg #[.int .i64 P1, .int .i64 P2], .agg #[.int .i64 Q1, .int .i64 Q2]] (Go.Sort.grow (redrawn vv d') os) fun e w'' => e = .returned (.bool T) ∧ ∃ p : Regrown, w'' = Go.Sort.grow (redrawn vv p.d) p.os := fun d' os => Calls.regrown_of (HM1.out _)
      have M1 := Lib.hid m1
      have BV := Lib.hid bv
      clear m1 ev kp kb bv x0 x1 y0 y1
      refine wp_region_quiet_below (by kernel_rfl) (by kernel_rfl) ?_
      repeat (first | go_big_quiet_step (with_reducible exact M1.out _ _) | quiet_step (with_reducible exact M1.out _ _))
      refine wpQuiet_nil ?_
      intro w1 hw'
      have hb : Below vv.heap.size vv w1 := by obtain ⟨p, rfl⟩ := hw'; exact below_regrown _ _ _
      have HB1 := Lib.hid (BV.out.trans (hb.mono sv))
      clear hw' hb z0 z1 z2 z3 z4 z5 z6 z7 hrem
      cases T
      · have HM := Lib.hid (HMISS.out rfl)
        clear HMISS HHIT
        go_wp2_with fail
        go_roundw
        case rel =>
          have hr2 : ∃ q' : Nat, Value.int .i64 ((q : Int) + 1) = .int .i64 (q' : Int) ∧ q' ≤ m ∧ Blk w1 w.heap.size 70 #[.int .i64 a, .int .i64 b, .int .i64 c, .int .i64 d] ∧ Below w.heap.size w w1 ∧ Below WR.heap.size WR w1 ∧ ((Geo.ring l[k]).take q').any F = false := ⟨q + 1, by go_num, by omega, J0.out.below HB1.out lb, HB.out.trans (HB1.out.mono hwx), HB2.out.trans (HB1.out.mono HB2.out.size), HM.out⟩
          first | exact hr2 | ((repeat apply Exists.intro); exact ⟨hr2, rfl⟩)
        case measure => simp [intOf]; omega
      · have HH := Lib.hid (HHIT.out rfl)
        clear HMISS HHIT
        go_wp2_with fail
        go_ret
        exact ⟨by rw [HH.out]; rfl, HB.out.trans (HB1.out.mono hwx)⟩
    · have e : q = m := by omega
      subst e
      have hE2 : (Geo.edges (l.take (k + 1))).any F = false := by
        rw [edges_succ l k hkl, List.any_append, HE.out]
        rw [List.take_of_length_le (by rw [ring_len, EM.out]; omega)] at hE
        rw [hE]; rfl
      have HE2 := Lib.hid hE2
      have J0 := Lib.hid j0
      have HB := Lib.hid hB
      clear hE2 hE j0 hB hB2 EM PT
      go_wp2_with fail
      go_roundw
      case rel =>
        have hr2 : ∃ k' : Nat, Value.int .i64 ((k : Int) + 1) = .int .i64 (k' : Int) ∧ k' ≤ n ∧ Blk wr w.heap.size 70 #[.int .i64 a, .int .i64 b, .int .i64 c, .int .i64 d] ∧ Below w.heap.size w wr ∧ (Geo.edges (l.take k')).any F = false := ⟨k + 1, by go_num, by omega, J0.out, HB.out, HE2.out⟩
        first | exact hr2 | ((repeat apply Exists.intro); exact ⟨hr2, rfl⟩)
      case measure => simp [intOf]; omega
  · have e : k = n := by omega
    subst e
    rw [List.take_of_length_le (by rw [HL.out]; omega)] at hE
    have HE := Lib.hid hE
    have HB := Lib.hid hB
    clear hE hB j0
    go_wp2_with fail
    go_ret
    exact ⟨by rw [HE.out]; rfl, HB.out⟩
end Go.Proofs.YtfajckkbinbpiaaGreatDoor
