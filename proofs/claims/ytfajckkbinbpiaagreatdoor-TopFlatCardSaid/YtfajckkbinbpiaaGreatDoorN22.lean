/- Walks: the class of a box in contours, as the reference says; how many points contours have. Walks: the numbers of 128 bits of the reference. -/
import Derived.Test.YtfajckkbinbpiaaGreatDoorN03
import Derived.Test.YtfajckkbinbpiaaGreatDoorN17
import Derived.Test.YtfajckkbinbpiaaGreatDoorN21
namespace Go.Proofs.YtfajckkbinbpiaaGreatDoor
set_option maxRecDepth 100000
set_option maxHeartbeats 32000000
set_option linter.unusedVariables false
set_option linter.unusedSimpArgs false
open Go.RowKit Go.Sort
theorem rpoly_c (a b c d : Int) (S : List Nat) (v : Value) (l : List (List Geo.Pt)) (w : World) (hP : PolyAt S w v l) (hl : l.length ≤ 4) (hF : ∀ c ∈ l, Few c) (a_0 : -2000 ≤ a) (a_1 : a ≤ 2000) (b_0 : -2000 ≤ b) (b_1 : b ≤ 2000) (c_0 : -2000 ≤ c) (c_1 : c ≤ 2000) (d_0 : -2000 ≤ d) (d_1 : d ≤ 2000) (ac : a ≤ c) (bd : b ≤ d) :
    Calls Tryz.prog 79 #[.agg #[.int .i64 a, .int .i64 b, .int .i64 c, .int .i64 d], v] w fun e w' => e = .returned (.int .i64 (Geo.polyC ⟨a, b, c, d⟩ l)) ∧ Below w.heap.size w w' := by
  have n1 := fun px py qx qy w (h1 : -2000 ≤ px) h2 (h3 : -2000 ≤ py) h4 (h5 : -2000 ≤ qx) h6 (h7 : -2000 ≤ qy) h8 => rmeets_c a b c d px py qx qy w a_0 a_1 b_0 b_1 c_0 c_1 d_0 d_1 h1 h2 h3 h4 h5 h6 h7 h8
  have n2 := fun w' v h => rpolyhas_c a b S v l w' h hl hF a_0 a_1 b_0 b_1
  have C1 := Lib.hid n1
  have C2 := Lib.hid n2
  have n3 := fun h => has_poly_corner (l := l) ac bd h
  have C3 := Lib.hid n3
  clear n1 n2 n3 a_0 a_1 b_0 b_1 c_0 c_1 d_0 d_1
  have ev : Geo.polyC ⟨a, b, c, d⟩ l = if (Geo.edges l).any (Geo.meets ⟨a, b, c, d⟩) = true then 1 else if Geo.odd (a, b) l = true then 2 else 0 := rfl
  rw [ev]
  clear ev
  obtain ⟨F, eF⟩ : ∃ F, Geo.meets ⟨a, b, c, d⟩ = F := ⟨_, rfl⟩
  rw [eF]
  obtain ⟨ZZ, eZ⟩ : ∃ Z : Int, (if (Geo.edges l).any F = true then (1 : Int) else if Geo.odd (a, b) l = true then 2 else 0) = Z := ⟨_, rfl⟩
  rw [eZ]
  have EZ := Lib.hid eZ
  have EF := Lib.hid eF
  clear eF eZ
  obtain ⟨p, cap, rfl, hp⟩ := hP
  obtain ⟨n, en⟩ : ∃ n, l.length = n := ⟨_, rfl⟩
  have PA : Hid (PolyAt S w (.slice p n cap) l) := Lib.hid ⟨p, cap, by rw [en], hp⟩
  have HF := Lib.hid hF
  have HL := Lib.hid en
  rw [en] at hl ⊢
  clear hp hF en
  go_enter Tryz.func79, Tryz.ntmps79
  go_wp2_with fail
  go_loopw [5] (fun i wr => ∃ k : Nat, i = .int .i64 (k : Int) ∧ k ≤ n ∧ Blk wr w.heap.size 70 #[.int .i64 a, .int .i64 b, .int .i64 c, .int .i64 d] ∧ Below w.heap.size w wr ∧ (Geo.edges (l.take k)).any F = false) (fun i wr => n - (intOf i).toNat)
  case atStart => exact ⟨0, rfl, Nat.zero_le _, by exact bkw, by exact blw, by simp [Geo.edges]⟩
  case round =>
  obtain ⟨k, rfl, hk, j0, hB, hE⟩ := hrel
  by_cases hlt : k < n
  · have hkl : k < l.length := by rw [HL.out]; exact hlt
    obtain ⟨p1, cap1, e1, h1⟩ := PA.out.below hB (Nat.le_refl _)
    obtain ⟨g1, rfl, _, lg1, h1⟩ := h1 (by intro e; rw [e] at hkl; simp at hkl)
    injection e1 with e1 e1n e1'
    subst e1 e1'
    clear e1n
    obtain ⟨u, hu, p2, cap2, rfl, h2⟩ := h1 k hkl
    obtain ⟨m, em⟩ : ∃ m, (l[k]).length = m := ⟨_, rfl⟩
    have hm : m ≤ 12 := by rw [← em]; exact (HF.out _ (List.getElem_mem hkl)).1
    rw [em] at hu
    have PT : Hid (PtsAt S wr (.slice p2 m cap2) l[k]) := Lib.hid ⟨p2, cap2, by rw [em], h2⟩
    have EM := Lib.hid em
    have J0 := Lib.hid j0
    have HB := Lib.hid hB
    have HE := Lib.hid hE
    have hw := hB.size
    obtain ⟨WR, eWR⟩ : ∃ W, wr = W := ⟨_, rfl⟩
    rw [eWR] at PT J0 HB hw hu lg1
    rw [eWR]
    have HU := Lib.hid hu
    clear eWR h1 h2 em j0 hB hE
    go_wp2_with fail
    clear hu
    go_loopw [6] (fun j wx => ∃ q : Nat, j = .int .i64 (q : Int) ∧ q ≤ m ∧ Blk wx w.heap.size 70 #[.int .i64 a, .int .i64 b, .int .i64 c, .int .i64 d] ∧ Below w.heap.size w wx ∧ Below WR.heap.size WR wx ∧ ((Geo.ring l[k]).take q).any F = false) (fun j wx => m - (intOf j).toNat)
    case atStart => exact ⟨0, rfl, Nat.zero_le _, J0.out, HB.out, Below.refl _ _, by simp⟩
    case round =>
    obtain ⟨q, rfl, hq, j0, hB, hB2, hE⟩ := hrel
    have hu : wr.cell? ⟨g1, k, none⟩ = some (.slice p2 m cap2) := (World.cell?_of_block (hB2.block g1 lg1)).trans HU.out
    have lg1' : g1 < wr.heap.size := by have := hB2.size; omega
    by_cases hlq : q < m
    · have hql : q < (l[k]).length := by rw [EM.out]; exact hlq
      obtain ⟨p3, cap3, e3, h3⟩ := PT.out.below hB2 (Nat.le_refl _)
      obtain ⟨g2, rfl, _, lg2, h3⟩ := h3 (by intro e; rw [e] at hql; simp at hql)
      injection e3 with e3 e3n e3'
      subst e3 e3'
      clear e3n
      have hr : (q + 1) % m < m := Nat.mod_lt _ (by omega)
      obtain ⟨r, er⟩ : ∃ r, (q + 1) % m = r := ⟨_, rfl⟩
      rw [er] at hr
      have hrl : r < (l[k]).length := by rw [EM.out]; exact hr
      obtain ⟨x0, x1⟩ := h3 q hql
      obtain ⟨y0, y1⟩ := h3 r hrl
      obtain ⟨⟨b1, b2⟩, b3, b4⟩ := few_at HF.out hkl hql
      obtain ⟨⟨b5, b6⟩, b7, b8⟩ := few_at HF.out hkl hrl
      have eq2 : (l[k])[(q + 1) % (l[k]).length]'(Nat.mod_lt _ (by omega)) = (l[k])[r] := by simp only [EM.out, er]
      obtain ⟨P, eP⟩ : ∃ P, (l[k])[q] = P := ⟨_, rfl⟩
      obtain ⟨Q, eQ⟩ : ∃ P, (l[k])[r] = P := ⟨_, rfl⟩
      have hrem := rem_next q m
      rw [er] at hrem
      have hki : (k : Int) < (n : Int) := by omega
      have hqi : (q : Int) < (m : Int) := by omega
      have hri : (r : Int) < (m : Int) := by omega
      have hm1 := fun w => C1.out _ _ _ _ w (Int.le_trans (by decide) b1) (Int.le_trans b2 (by decide)) (Int.le_trans (by decide) b3) (Int.le_trans b4 (by decide)) (Int.le_trans (by decide) b5) (Int.le_trans b6 (by decide)) (Int.le_trans (by decide) b7) (Int.le_trans b8 (by decide))
      have hhit : F (P, Q) = true → (Geo.edges l).any F = true := fun h => by
        refine any_hit hkl hql ?_
        rw [eq2, eP, eQ]; exact h
      have hmiss : F (P, Q) = false → ((Geo.ring l[k]).take (q + 1)).any F = false := fun h => by
        refine any_take hql hE ?_
        rw [eq2, eP, eQ]; exact h
      rw [eP] at x0 x1 hm1
      rw [eQ] at y0 y1 hm1
      rw [EF.out] at hm1
      obtain ⟨P1, P2⟩ := P
      obtain ⟨Q1, Q2⟩ := Q
      simp only [] at x0 x1 y0 y1 hm1
      obtain ⟨T, eT⟩ : ∃ T, F ((P1, P2), (Q1, Q2)) = T := ⟨_, rfl⟩
      rw [eT] at hm1 hhit hmiss
      have HM1 := Lib.hid hm1
      have HHIT := Lib.hid hhit
      have HMISS := Lib.hid hmiss
      have lb := j0.lt
      have hwx := hB.size
      have z0 := cell_regrown (show wr.cell? ⟨w.heap.size, 0, none⟩ = some (.int .i64 a) from j0.cell 0)
      have z1 := cell_regrown (show wr.cell? ⟨w.heap.size, 1, none⟩ = some (.int .i64 b) from j0.cell 1)
      have z2 := cell_regrown (show wr.cell? ⟨w.heap.size, 2, none⟩ = some (.int .i64 c) from j0.cell 2)
      have z3 := cell_regrown (show wr.cell? ⟨w.heap.size, 3, none⟩ = some (.int .i64 d) from j0.cell 3)
      have z4 := cell_regrown x0
      have z5 := cell_regrown x1
      have z6 := cell_regrown y0
      have z7 := cell_regrown y1
      have z8 := cell_regrown hu
      have J0 := Lib.hid j0
      have HB := Lib.hid hB
      have HB2 := Lib.hid hB2
      have m1 : ∀ d' os, Calls Tryz.prog 123 #[.agg #[.int .i64 a, .int .i64 b, .int .i64 c, .int .i64 d], .agg #[.int .i64 P1, .int .i64 P2], .agg #[.int .i64 Q1, .int .i64 Q2]] (Go.Sort.grow (redrawn wr d') os) fun e w'' => e = .returned (.bool T) ∧ ∃ p : Regrown, w'' = Go.Sort.grow (redrawn wr p.d) p.os := fun d' os => Calls.regrown_of (HM1.out _)
      have M1 := Lib.hid m1
      clear h3 b1 b2 b3 b4 b5 b6 b7 b8 hm1 eq2 eP eQ eT hhit hmiss j0 hB hB2 hE er m1
      go_wp2_with fail
      refine wp_region_quiet_below (by kernel_rfl) (by kernel_rfl) ?_
      repeat (any_goals (first | go_big_quiet_step (first | (with_reducible exact M1.out _ _)) | quiet_step (first | (with_reducible exact M1.out _ _))))
      refine wpQuiet_nil ?_
      intro w1 hw'
      have hb : Below wr.heap.size wr w1 := by obtain ⟨p, rfl⟩ := hw'; exact below_regrown _ _ _
      have HB1 := Lib.hid hb
      clear hw' hb z0 z1 z2 z3 z4 z5 z6 z7 z8 hrem x0 x1 y0 y1 hu
      cases T
      · have HM := Lib.hid (HMISS.out rfl)
        clear HMISS HHIT
        go_wp2_with fail
        go_roundw
        case rel =>
          have hr2 : ∃ q' : Nat, Value.int .i64 ((q : Int) + 1) = .int .i64 (q' : Int) ∧ q' ≤ m ∧ Blk w1 w.heap.size 70 #[.int .i64 a, .int .i64 b, .int .i64 c, .int .i64 d] ∧ Below w.heap.size w w1 ∧ Below WR.heap.size WR w1 ∧ ((Geo.ring l[k]).take q').any F = false := ⟨q + 1, by go_num, by omega, J0.out.below HB1.out lb, HB.out.trans (HB1.out.mono hwx), HB2.out.trans (HB1.out.mono HB2.out.size), HM.out⟩
          first | exact hr2 | ((repeat apply Exists.intro); exact ⟨hr2, rfl⟩)
        case measure => simp [intOf]; omega
      · have eZ := EZ.out
        rw [HHIT.out rfl, if_pos rfl] at eZ
        subst eZ
        clear HMISS HHIT EZ
        go_wp2_with fail
        go_ret
        exact ⟨rfl, HB.out.trans (HB1.out.mono hwx)⟩
    · have e : q = m := by omega
      subst e
      have hE2 : (Geo.edges (l.take (k + 1))).any F = false := by
        rw [edges_succ l k hkl, List.any_append, HE.out]
        rw [List.take_of_length_le (by rw [ring_len, EM.out]; omega)] at hE
        rw [hE]; rfl
      have HE2 := Lib.hid hE2
      have J0 := Lib.hid j0
      have HB := Lib.hid hB
      clear hE2 hE j0 hB hB2 EM PT
      go_wp2_with fail
      go_roundw
      case rel =>
        have hr2 : ∃ k' : Nat, Value.int .i64 ((k : Int) + 1) = .int .i64 (k' : Int) ∧ k' ≤ n ∧ Blk wr w.heap.size 70 #[.int .i64 a, .int .i64 b, .int .i64 c, .int .i64 d] ∧ Below w.heap.size w wr ∧ (Geo.edges (l.take k')).any F = false := ⟨k + 1, by go_num, by omega, J0.out, HB.out, HE2.out⟩
        first | exact hr2 | ((repeat apply Exists.intro); exact ⟨hr2, rfl⟩)
      case measure => simp [intOf]; omega
  · have e : k = n := by omega
    subst e
    rw [List.take_of_length_le (by rw [HL.out]; omega)] at hE
    rw [← EF.out] at hE
    have hh := C3.out hE
    rw [EF.out] at hE
    have hc2 := fun w' v h => C2.out w' v h
    rw [hh] at hc2
    obtain ⟨O, eO⟩ : ∃ O, Geo.odd (a, b) l = O := ⟨_, rfl⟩
    rw [eO] at hc2
    have eZ := EZ.out
    rw [hE, if_neg (by decide), eO] at eZ
    have HC2 := Lib.hid hc2
    have HB := Lib.hid hB
    have HPW := Lib.hid (PA.out.below hB (Nat.le_refl _))
    have c0 := j0.cell
    have l0 := j0.lt
    have sB := hB.size
    clear hE hB j0 hh hc2 eO EZ
    cases O
    all_goals
      first | rw [if_pos rfl] at eZ | rw [if_neg (by decide)] at eZ
      subst eZ
      go_wp2_with fail
      refine (HC2.out _ _ HPW.out).mono ?_
      rintro e w1 ⟨rfl, hb⟩
      have HB1 := Lib.hid (HB.out.trans (hb.mono sB))
      clear hb
      go_wp2_with fail
      go_ret
      exact ⟨rfl, HB1.out⟩
theorem rpoints_c (S : List Nat) (v : Value) (l : List (List Geo.Pt)) (w : World) (hP : PolyAt S w v l) (hl : l.length ≤ 4) (hF : ∀ c ∈ l, Few c) :
    Calls Tryz.prog 119 #[v] w fun e w' => ∃ t : Int, 0 ≤ t ∧ t ≤ 1000 ∧ e = .returned (.int .i64 t) ∧ Below w.heap.size w w' := by
  have n1 := fun x y w (h1 : -2000 ≤ x) h2 (h3 : -2000 ≤ y) h4 => rnearpt x y w h1 h2 h3 h4
  have C1 := Lib.hid n1
  clear n1
  obtain ⟨p, cap, rfl, hp⟩ := hP
  obtain ⟨n, en⟩ : ∃ n, l.length = n := ⟨_, rfl⟩
  have PA : Hid (PolyAt S w (.slice p n cap) l) := Lib.hid ⟨p, cap, by rw [en], hp⟩
  have HF := Lib.hid hF
  have HL := Lib.hid en
  rw [en] at hl ⊢
  clear hp hF en
  go_enter Tryz.func119, Tryz.ntmps119
  go_wp2_with fail
  go_loopw [3, 4] (fun z i wr => ∃ k : Nat, i = .int .i64 (k : Int) ∧ (∃ t : Int, z = .int .i64 t ∧ 0 ≤ t ∧ t ≤ 12 * (k : Int)) ∧ k ≤ n ∧ Below w.heap.size w wr) (fun z i wr => n - (intOf i).toNat)
  case atStart => exact ⟨0, rfl, ⟨0, rfl, by omega, by omega⟩, Nat.zero_le _, by exact blw⟩
  case round =>
  obtain ⟨k, rfl, ⟨t, rfl, ht0, ht1⟩, hk, hB⟩ := hrel
  by_cases hlt : k < n
  · have hkl : k < l.length := by rw [HL.out]; exact hlt
    obtain ⟨p1, cap1, e1, h1⟩ := PA.out.below hB (Nat.le_refl _)
    obtain ⟨g1, rfl, _, lg1, h1⟩ := h1 (by intro e; rw [e] at hkl; simp at hkl)
    injection e1 with e1 e1n e1'
    subst e1 e1'
    clear e1n
    obtain ⟨u, hu, p2, cap2, rfl, h2⟩ := h1 k hkl
    obtain ⟨m, em⟩ : ∃ m, (l[k]).length = m := ⟨_, rfl⟩
    have hm : m ≤ 12 := by rw [← em]; exact (HF.out _ (List.getElem_mem hkl)).1
    rw [em] at hu
    have PT : Hid (PtsAt S wr (.slice p2 m cap2) l[k]) := Lib.hid ⟨p2, cap2, by rw [em], h2⟩
    have EM := Lib.hid em
    have HB := Lib.hid hB
    have hw := hB.size
    obtain ⟨WR, eWR⟩ : ∃ W, wr = W := ⟨_, rfl⟩
    rw [eWR] at PT HB hw hu lg1
    rw [eWR]
    have HU := Lib.hid hu
    clear eWR h1 h2 em hB 
    go_wp2_with fail
    clear hu
    go_loopw [3, 5] (fun z j wx => ∃ q : Nat, j = .int .i64 (q : Int) ∧ (∃ s : Int, z = .int .i64 s ∧ 0 ≤ s ∧ s ≤ 12 * (k : Int) + (q : Int)) ∧ q ≤ m ∧ Below w.heap.size w wx ∧ Below WR.heap.size WR wx) (fun z j wx => m - (intOf j).toNat)
    case atStart => exact ⟨0, rfl, ⟨t, rfl, by omega, by omega⟩, Nat.zero_le _, HB.out, Below.refl _ _⟩
    case round =>
    obtain ⟨q, rfl, ⟨s, rfl, hs0, hs1⟩, hq, hB, hB2⟩ := hrel
    have hu : wr.cell? ⟨g1, k, none⟩ = some (.slice p2 m cap2) := (World.cell?_of_block (hB2.block g1 lg1)).trans HU.out
    have lg1' : g1 < wr.heap.size := by have := hB2.size; omega
    by_cases hlq : q < m
    · have hql : q < (l[k]).length := by rw [EM.out]; exact hlq
      obtain ⟨p3, cap3, e3, h3⟩ := PT.out.below hB2 (Nat.le_refl _)
      obtain ⟨g2, rfl, _, lg2, h3⟩ := h3 (by intro e; rw [e] at hql; simp at hql)
      injection e3 with e3 e3n e3'
      subst e3 e3'
      clear e3n
      obtain ⟨x0, x1⟩ := h3 q hql
      obtain ⟨⟨b1, b2⟩, b3, b4⟩ := few_at HF.out hkl hql
      have hm1 := fun w => C1.out _ _ w (Int.le_trans (by decide) b1) (Int.le_trans b2 (by decide)) (Int.le_trans (by decide) b3) (Int.le_trans b4 (by decide))
      have HM1 := Lib.hid hm1
      have HB := Lib.hid hB
      have HB2 := Lib.hid hB2
      have hwx := hB.size
      clear h3 b1 b2 b3 b4 hm1 hB hB2
      go_wp2_with fail
      refine (HM1.out _).mono ?_
      rintro e w1 ⟨rfl, hb⟩
      have HB1 := Lib.hid hb
      clear hb x0 x1 hu
      go_wp2_with fail
      go_roundw
      case rel =>
        have hr2 : ∃ q' : Nat, Value.int .i64 ((q : Int) + 1) = .int .i64 (q' : Int) ∧ (∃ s' : Int, Value.int .i64 (s + 1) = .int .i64 s' ∧ 0 ≤ s' ∧ s' ≤ 12 * (k : Int) + (q' : Int)) ∧ q' ≤ m ∧ Below w.heap.size w w1 ∧ Below WR.heap.size WR w1 := ⟨q + 1, by go_num, ⟨s + 1, rfl, by omega, by omega⟩, by omega, HB.out.trans (HB1.out.mono hwx), HB2.out.trans (HB1.out.mono HB2.out.size)⟩
        first | exact hr2 | ((repeat apply Exists.intro); exact ⟨hr2, rfl⟩)
      case measure => simp [intOf]; omega
    · have e : q = m := by omega
      subst e
      have HB := Lib.hid hB
      clear hB hB2 EM PT
      go_wp2_with fail
      go_roundw
      case rel =>
        have hr2 : ∃ k' : Nat, Value.int .i64 ((k : Int) + 1) = .int .i64 (k' : Int) ∧ (∃ t' : Int, Value.int .i64 s = .int .i64 t' ∧ 0 ≤ t' ∧ t' ≤ 12 * (k' : Int)) ∧ k' ≤ n ∧ Below w.heap.size w wr := ⟨k + 1, by go_num, ⟨s, rfl, by omega, by omega⟩, by omega, HB.out⟩
        first | exact hr2 | ((repeat apply Exists.intro); exact ⟨hr2, rfl⟩)
      case measure => simp [intOf]; omega
  · have e : k = n := by omega
    subst e
    have HB := Lib.hid hB
    clear hB
    go_wp2_with fail
    go_ret
    exact ⟨t, by omega, by omega, rfl, HB.out⟩
theorem rabs (v : Int) (h0 : -9223372036854775808 ≤ v) (h1 : v ≤ 9223372036854775807) (w : World) :
    Calls Tryz.prog 216 #[.int .i64 v] w fun e w' => e = .returned (.int .u64 (v.natAbs : Nat)) ∧ w = w' := by
  by_cases h : v < 0
  · go_enter Tryz.func216, Tryz.ntmps216
    go_wp2
    go_ret
    exact ⟨ret_int (by omega), rfl⟩
  · go_enter Tryz.func216, Tryz.ntmps216
    go_wp2
    go_ret
    exact ⟨ret_int (by omega), rfl⟩
theorem or_join (x y : Nat) (hx : x < 18446744073709551616) (hm : x % 4294967296 = 0) (hy : y < 4294967296) : bits .or .u64 (x : Int) (y : Int) = ((x + y : Nat) : Int) := by
  rw [u64_or_nat x y hx (by omega)]
  have h : x = x / 4294967296 * 2 ^ 32 := by omega
  have e : x ||| y = x + y := by
    rw [h, ← Nat.shiftLeft_eq, Nat.shiftLeft_add_eq_or_of_lt (by omega)]
  rw [e]
theorem mul_parts (x y u v : Nat) (bx : x < 4294967296) (by' : y < 4294967296) (bu : u < 4294967296) (bv : v < 4294967296) :
    x * u + x * v / 4294967296 + y * u / 4294967296 + (y * v / 4294967296 + x * v % 4294967296 + y * u % 4294967296) / 4294967296 = hiN ((x * 4294967296 + y) * (u * 4294967296 + v)) ∧
    (y * v / 4294967296 + x * v % 4294967296 + y * u % 4294967296) * 4294967296 % 18446744073709551616 + y * v % 4294967296 = loN ((x * 4294967296 + y) * (u * 4294967296 + v)) := by
  rw [Lib.split_mul]
  have h1 := Lib.half_mul_le (a := x) (b := u) (by omega) (by omega)
  have h2 := Lib.half_mul_le (a := x) (b := v) (by omega) (by omega)
  have h3 := Lib.half_mul_le (a := y) (b := u) (by omega) (by omega)
  have h4 := Lib.half_mul_le (a := y) (b := v) (by omega) (by omega)
  unfold hiN loN
  generalize x * u = a at *
  generalize x * v = b at *
  generalize y * u = c at *
  generalize y * v = d at *
  constructor <;> omega
theorem rmul (a b : Nat) (ha : a < lim) (hb0 : b < lim) (w : World) :
    Calls Tryz.prog 180 #[.int .u64 a, .int .u64 b] w fun e w' => e = .returned (.agg #[.int .u64 (hiN (a * b) : Nat), .int .u64 (loN (a * b) : Nat)]) ∧ Below w.heap.size w w' := by
  obtain ⟨x, ex, bx⟩ : ∃ n : Nat, (a : Int) / 4294967296 = n ∧ n < 4294967296 := ⟨a / 4294967296, by omega, by rw [lim_eq] at ha; omega⟩
  obtain ⟨y, ey, by'⟩ : ∃ n : Nat, bits .and .u64 (a : Int) 4294967295 = n ∧ n < 4294967296 := ⟨_, M.maskN a ha, by omega⟩
  obtain ⟨u, eu, bu⟩ : ∃ n : Nat, (b : Int) / 4294967296 = n ∧ n < 4294967296 := ⟨b / 4294967296, by omega, by rw [lim_eq] at hb0; omega⟩
  obtain ⟨v, ev, bv⟩ : ∃ n : Nat, bits .and .u64 (b : Int) 4294967295 = n ∧ n < 4294967296 := ⟨_, M.maskN b hb0, by omega⟩
  have hya : a = x * 4294967296 + y := by have := M.maskN a ha; rw [ey] at this; omega
  have hyb : b = u * 4294967296 + v := by have := M.maskN b hb0; rw [ev] at this; omega
  obtain ⟨p1, p2⟩ := mul_parts x y u v bx by' bu bv
  rw [← hya, ← hyb] at p1 p2
  have w1 : x * u < lim := by rw [lim_eq]; exact Nat.mul_lt_mul'' bx bu
  have w2 : y * v < lim := by rw [lim_eq]; exact Nat.mul_lt_mul'' by' bv
  have w3 : x * v < lim := by rw [lim_eq]; exact Nat.mul_lt_mul'' bx bv
  have w4 : y * u < lim := by rw [lim_eq]; exact Nat.mul_lt_mul'' by' bu
  have hlt : hiN (a * b) < lim := hi_lt _ (mul_lt a b ha hb0)
  clear hya hyb
  have e1 : IntKind.u64.wrap ((x : Int) * u) = ((x * u : Nat) : Int) := by rw [M.mulN, M.wrapN _ w1]
  have e2 : IntKind.u64.wrap ((y : Int) * v) = ((y * v : Nat) : Int) := by rw [M.mulN, M.wrapN _ w2]
  have e3 : IntKind.u64.wrap ((x : Int) * v) = ((x * v : Nat) : Int) := by rw [M.mulN, M.wrapN _ w3]
  have e4 : IntKind.u64.wrap ((y : Int) * u) = ((y * u : Nat) : Int) := by rw [M.mulN, M.wrapN _ w4]
  generalize hiN (a * b) = HI at *
  generalize loN (a * b) = LO at *
  generalize x * u = p at *
  generalize x * v = q at *
  generalize y * u = s at *
  generalize y * v = t at *
  obtain ⟨q0, g1, c1⟩ : ∃ n : Nat, bits .and .u64 (q : Int) 4294967295 = n ∧ n = q % 4294967296 := ⟨_, M.maskN q w3, rfl⟩
  obtain ⟨s0, g2, c2⟩ : ∃ n : Nat, bits .and .u64 (s : Int) 4294967295 = n ∧ n = s % 4294967296 := ⟨_, M.maskN s w4, rfl⟩
  obtain ⟨t0, g3, c3⟩ : ∃ n : Nat, bits .and .u64 (t : Int) 4294967295 = n ∧ n = t % 4294967296 := ⟨_, M.maskN t w2, rfl⟩
  obtain ⟨q1, g4, c4⟩ : ∃ n : Nat, (q : Int) / 4294967296 = n ∧ n = q / 4294967296 := ⟨_, M.divN q, rfl⟩
  obtain ⟨s1, g5, c5⟩ : ∃ n : Nat, (s : Int) / 4294967296 = n ∧ n = s / 4294967296 := ⟨_, M.divN s, rfl⟩
  obtain ⟨t1, g6, c6⟩ : ∃ n : Nat, (t : Int) / 4294967296 = n ∧ n = t / 4294967296 := ⟨_, M.divN t, rfl⟩
  rw [← c1, ← c2, ← c3, ← c6] at p2
  rw [← c1, ← c2, ← c4, ← c5, ← c6] at p1
  rw [lim_eq] at w2 w3 w4 hlt w1
  have d1 : q0 < 4294967296 := by omega
  have d2 : s0 < 4294967296 := by omega
  have d3 : t0 < 4294967296 := by omega
  have d4 : q1 < 4294967296 := by omega
  have d5 : s1 < 4294967296 := by omega
  have d6 : t1 < 4294967296 := by omega
  clear c1 c2 c3 c4 c5 c6
  obtain ⟨m, em⟩ : ∃ n : Nat, t1 + q0 + s0 = n := ⟨_, rfl⟩
  have g7 : (t1 : Int) + q0 + s0 = m := by omega
  rw [em] at p1 p2
  obtain ⟨m1, g8, c8⟩ : ∃ n : Nat, (m : Int) / 4294967296 = n ∧ n = m / 4294967296 := ⟨_, M.divN m, rfl⟩
  obtain ⟨m2, g9, c9⟩ : ∃ n : Nat, IntKind.u64.wrap ((m : Int) * 4294967296) = n ∧ n = m * 4294967296 % 18446744073709551616 := ⟨_, by rw [show ((m : Int) * 4294967296) = ((m * 4294967296 : Nat) : Int) by omega, M.wrapM], rfl⟩
  have g10 : bits .or .u64 (m2 : Int) (t0 : Int) = LO := by rw [or_join m2 t0 (by omega) (by omega) d3]; omega
  rw [← c8] at p1
  have g11 : (p : Int) + q1 + s1 + m1 = HI := by omega
  have k1 : p + q1 + s1 + m1 < 18446744073709551616 := by omega
  clear p1 p2 c8 c9 em hlt
  go_enter Tryz.func180, Tryz.ntmps180
  go_wp2
  exact bodyPost_ret (v := .agg #[.int .u64 (HI : Nat), .int .u64 (LO : Nat)]) (by simp [results, Tryz.results180, go_sem]) rfl ⟨rfl, by go_grown⟩
theorem rsq (v : Int) (h0 : -9223372036854775808 ≤ v) (h1 : v ≤ 9223372036854775807) (w : World) :
    Calls Tryz.prog 179 #[.int .i64 v] w fun e w' => e = .returned (.agg #[.int .u64 (hiN (v.natAbs * v.natAbs) : Nat), .int .u64 (loN (v.natAbs * v.natAbs) : Nat)]) ∧ Below w.heap.size w w' := by
  have hl := natAbs_lt v h0 h1
  have ha := fun w => rabs v h0 h1 w
  generalize v.natAbs = n at *
  have HA := Lib.hid ha
  clear ha
  go_enter Tryz.func179, Tryz.ntmps179
  go_wp2_with fail
  refine (HA.out _).mono ?_
  rintro e w1 ⟨rfl, rfl⟩
  go_wp2_with fail
  refine (HA.out _).mono ?_
  rintro e w1 ⟨rfl, rfl⟩
  go_wp2_with fail
  refine (rmul _ _ hl hl _).mono ?_
  rintro e w1 ⟨rfl, hb⟩
  have hB : Below w.heap.size w w1 := ((Below.refl _ _).alloc (Nat.le_refl _) _).trans (hb.mono (by simp))
  have k0 : Blk w1 w.heap.size 295 #[.int .u64 0, .int .u64 0] := Blk.below (Blk.new _ _ _) hb (by simp)
  have c0 := k0.cell
  have f0 := k0.frozen
  clear hb
  go_wp2_with fail
  exact bodyPost_ret (v := .agg #[.int .u64 (hiN (n * n) : Nat), .int .u64 (loN (n * n) : Nat)]) (by simp [results, Tryz.results179, go_sem, c0]) rfl ⟨rfl, by go_grown⟩
theorem rcmp_lt (ah al bh bl : Nat) (h : ah < bh ∨ ah = bh ∧ al < bl) (w : World) :
    Calls Tryz.prog 178 #[.agg #[.int .u64 ah, .int .u64 al], .agg #[.int .u64 bh, .int .u64 bl]] w fun e w' => e = .returned (.int .i64 (-1)) ∧ Below w.heap.size w w' := by
  rcases h with h | ⟨rfl, h⟩
  · have t1 : ((ah : Int) == bh) = false := by simp; omega
    go_enter Tryz.func178, Tryz.ntmps178
    go_wp2
    go_ret
    exact ⟨rfl, by go_grown⟩
  · have t1 : ((al : Int) == bl) = false := by simp; omega
    go_enter Tryz.func178, Tryz.ntmps178
    go_wp2
    go_ret
    exact ⟨rfl, by go_grown⟩
theorem rcmp_eq (ah al : Nat) (w : World) :
    Calls Tryz.prog 178 #[.agg #[.int .u64 ah, .int .u64 al], .agg #[.int .u64 ah, .int .u64 al]] w fun e w' => e = .returned (.int .i64 0) ∧ Below w.heap.size w w' := by
  go_enter Tryz.func178, Tryz.ntmps178
  go_wp2
  go_ret
  exact ⟨rfl, by go_grown⟩
theorem rcmp_gt (ah al bh bl : Nat) (h : bh < ah ∨ ah = bh ∧ bl < al) (w : World) :
    Calls Tryz.prog 178 #[.agg #[.int .u64 ah, .int .u64 al], .agg #[.int .u64 bh, .int .u64 bl]] w fun e w' => e = .returned (.int .i64 1) ∧ Below w.heap.size w w' := by
  rcases h with h | ⟨rfl, h⟩
  · have t1 : ((ah : Int) == bh) = false := by simp; omega
    go_enter Tryz.func178, Tryz.ntmps178
    go_wp2
    go_ret
    exact ⟨rfl, by go_grown⟩
  · have t1 : ((al : Int) == bl) = false := by simp; omega
    go_enter Tryz.func178, Tryz.ntmps178
    go_wp2
    go_ret
    exact ⟨rfl, by go_grown⟩
theorem rcmp (ah al bh bl : Nat) (h2 : al < lim) (h4 : bl < lim) (w : World) :
    Calls Tryz.prog 178 #[.agg #[.int .u64 ah, .int .u64 al], .agg #[.int .u64 bh, .int .u64 bl]] w fun e w' => e = .returned (.int .i64 (cmpN (val ah al) (val bh bl))) ∧ Below w.heap.size w w' := by
  rw [lim_eq] at *
  rcases Nat.lt_trichotomy (val ah al) (val bh bl) with h | h | h
  · rw [cmp_lt h]; exact rcmp_lt _ _ _ _ (by unfold val at h; omega) w
  · rw [cmp_eq h]
    obtain ⟨rfl, rfl⟩ : ah = bh ∧ al = bl := by unfold val at h; omega
    exact rcmp_eq _ _ w
  · rw [cmp_gt h]; exact rcmp_gt _ _ _ _ (by unfold val at h; omega) w
end Go.Proofs.YtfajckkbinbpiaaGreatDoor
