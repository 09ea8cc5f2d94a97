/- Walk: whether a point is in contours, as the reference says. -/
import Derived.BigQuiet
import Derived.BigRegion
import Derived.Deep.DeepCutAuto
import Derived.LoopTactic
import Derived.Test.YtfajckkbinbpiaaGreatDoorN04
import Derived.Test.YtfajckkbinbpiaaGreatDoorN15
import Derived.Test.YtfajckkbinbpiaaGreatDoorN20
namespace Go.Proofs.YtfajckkbinbpiaaGreatDoor
set_option maxRecDepth 100000
set_option maxHeartbeats 32000000
set_option linter.unusedVariables false
set_option linter.unusedSimpArgs false
open Go.RowKit Go.Sort
theorem few_at {l : List (List Geo.Pt)} (hF : ∀ c ∈ l, Few c) {k q : Nat} (hk : k < l.length) (hq : q < (l[k]).length) : (-20 ≤ ((l[k])[q]).1 ∧ ((l[k])[q]).1 ≤ 20) ∧ (-20 ≤ ((l[k])[q]).2 ∧ ((l[k])[q]).2 ≤ 20) :=
  (hF _ (List.getElem_mem hk)).2 _ (List.getElem_mem hq)
theorem crs_ud (px py ax ay ex ey : Int) : Geo.crs px py ax ay ex ey = (((decide (ay ≤ py) && decide (py < ey)) && decide (0 < Geo.cross ax ay ex ey px py)) || ((decide (ey ≤ py) && decide (py < ay)) && decide (Geo.cross ax ay ex ey px py < 0))) := by
  unfold Geo.crs
  by_cases ha : py < ay <;> by_cases he : py < ey
  · simp [ha, he, show ¬ ay ≤ py by omega, show ¬ ey ≤ py by omega]
  · simp [ha, he, show ¬ ay < ey by omega, show ¬ ay ≤ py by omega, show ey ≤ py by omega]
  · simp [ha, he, show ay < ey by omega, show ay ≤ py by omega, show ¬ ey ≤ py by omega]
  · simp [ha, he]
theorem has_poly_corner {a b c d : Int} {l : List (List Geo.Pt)} (ac : a ≤ c) (bd : b ≤ d) (h : (Geo.edges l).any (Geo.meets ⟨a, b, c, d⟩) = false) : (Geo.Sh.poly l).has (a, b) = Geo.odd (a, b) l := by
  have hn := Geo.noneMeets (b := ⟨a, b, c, d⟩) (l := l) (by rw [h]; decide)
  have h2 : (Geo.edges l).any (fun e => decide (Geo.Touch e (a, b))) = false := by
    rw [List.any_eq_false]
    intro e he
    have h3 := Geo.no_touch (hn e he) (Int.le_refl a) ac (Int.le_refl b) bd
    rw [decide_eq_true_eq]
    exact h3
  show ((Geo.edges l).any (fun e => decide (Geo.Touch e (a, b))) || Geo.odd (a, b) l) = _
  rw [h2]; rfl
theorem rpolyhas_c (px py : Int) (S : List Nat) (v : Value) (l : List (List Geo.Pt)) (w : World) (hP : PolyAt S w v l) (hl : l.length ≤ 4) (hF : ∀ c ∈ l, Few c) (px_0 : -2000 ≤ px) (px_1 : px ≤ 2000) (py_0 : -2000 ≤ py) (py_1 : py ≤ 2000) :
    Calls Tryz.prog 124 #[.agg #[.int .i64 px, .int .i64 py], v] w fun e w' => e = .returned (.bool ((Geo.Sh.poly l).has (px, py))) ∧ Below w.heap.size w w' := by
  have n1 := fun ax ay ex ey w (h1 : -2000 ≤ ax) h2 (h3 : -2000 ≤ ay) h4 (h5 : -2000 ≤ ex) h6 (h7 : -2000 ≤ ey) h8 => rcross_c ax ay ex ey px py w h1 h2 h3 h4 h5 h6 h7 h8 px_0 px_1 py_0 py_1
  have C1 := Lib.hid n1
  clear n1 px_0 px_1 py_0 py_1
  have ev : (Geo.Sh.poly l).has (px, py) = ((Geo.edges l).any (fun e => decide (Geo.Touch e (px, py))) || Geo.odd (px, py) l) := rfl
  rw [ev]
  clear ev
  unfold Geo.odd
  obtain ⟨F, eF⟩ : ∃ F : Geo.Pt × Geo.Pt → Bool, (fun e => Geo.crs (px, py).1 (px, py).2 e.1.1 e.1.2 e.2.1 e.2.2) = F := ⟨_, rfl⟩
  rw [eF]
  have eF2 : ∀ x y z u, F ((x, y), (z, u)) = (((decide (y ≤ py) && decide (py < u)) && decide (0 < Geo.cross x y z u px py)) || ((decide (u ≤ py) && decide (py < y)) && decide (Geo.cross x y z u px py < 0))) := by rw [← eF]; exact fun _ _ _ _ => crs_ud _ _ _ _ _ _
  obtain ⟨T, eT⟩ : ∃ F : Geo.Pt × Geo.Pt → Bool, (fun e => decide (Geo.Touch e (px, py))) = F := ⟨_, rfl⟩
  rw [eT]
  have eT2 : ∀ x y z u, T ((x, y), (z, u)) = true ↔ (Geo.cross x y z u px py = 0 ∧ min x z ≤ px ∧ px ≤ max x z ∧ min y u ≤ py ∧ py ≤ max y u) := by
    rw [← eT]
    intro x y z u
    rw [decide_eq_true_eq]
    exact Iff.rfl
  have EF := Lib.hid eF2
  have ET := Lib.hid eT2
  clear eF eF2 eT eT2
  obtain ⟨p, cap, rfl, hp⟩ := hP
  obtain ⟨n, en⟩ : ∃ n, l.length = n := ⟨_, rfl⟩
  have PA : Hid (PolyAt S w (.slice p n cap) l) := Lib.hid ⟨p, cap, by rw [en], hp⟩
  have HF := Lib.hid hF
  have HL := Lib.hid en
  rw [en] at hl ⊢
  clear hp hF en
  go_enter Tryz.func124, Tryz.ntmps124
  go_wp2_with fail
  go_loopw [5, 6] (fun z i wr => ∃ k : Nat, i = .int .i64 (k : Int) ∧ z = .bool (Geo.par F (Geo.edges (l.take k))) ∧ k ≤ n ∧ Blk wr w.heap.size 58 #[.int .i64 px, .int .i64 py] ∧ Below w.heap.size w wr ∧ (Geo.edges (l.take k)).any T = false) (fun z i wr => n - (intOf i).toNat)
  case atStart => exact ⟨0, rfl, rfl, Nat.zero_le _, by exact bkw, by exact blw, by simp [Geo.edges]⟩
  case round =>
  obtain ⟨k, rfl, rfl, hk, j0, hB, hE⟩ := hrel
  obtain ⟨Z, eZ⟩ : ∃ Z, Geo.par F (Geo.edges (l.take k)) = Z := ⟨_, rfl⟩
  have EZ := Lib.hid eZ
  rw [eZ]
  clear eZ
  by_cases hlt : k < n
  · have hkl : k < l.length := by rw [HL.out]; exact hlt
    obtain ⟨p1, cap1, e1, h1⟩ := PA.out.below hB (Nat.le_refl _)
    obtain ⟨g1, rfl, _, lg1, h1⟩ := h1 (by intro e; rw [e] at hkl; simp at hkl)
    injection e1 with e1 e1n e1'
    subst e1 e1'
    clear e1n
    obtain ⟨u, hu, p2, cap2, rfl, h2⟩ := h1 k hkl
    obtain ⟨m, em⟩ : ∃ m, (l[k]).length = m := ⟨_, rfl⟩
    have hm : m ≤ 12 := by rw [← em]; exact (HF.out _ (List.getElem_mem hkl)).1
    rw [em] at hu
    have PT : Hid (PtsAt S wr (.slice p2 m cap2) l[k]) := Lib.hid ⟨p2, cap2, by rw [em], h2⟩
    have EM := Lib.hid em
    have J0 := Lib.hid j0
    have HB := Lib.hid hB
    have HE := Lib.hid hE
    have hw := hB.size
    obtain ⟨WR, eWR⟩ : ∃ W, wr = W := ⟨_, rfl⟩
    rw [eWR] at PT J0 HB hw hu lg1
    rw [eWR]
    have HU := Lib.hid hu
    clear eWR h1 h2 em j0 hB hE
    go_wp2_with fail
    clear hu
    go_loopw [5, 7] (fun z j wx => ∃ q : Nat, j = .int .i64 (q : Int) ∧ z = .bool (Z != Geo.par F ((Geo.ring l[k]).take q)) ∧ q ≤ m ∧ Blk wx w.heap.size 58 #[.int .i64 px, .int .i64 py] ∧ Below w.heap.size w wx ∧ Below WR.heap.size WR wx ∧ ((Geo.ring l[k]).take q).any T = false) (fun z j wx => m - (intOf j).toNat)
    case atStart => exact ⟨0, rfl, by simp [Geo.par], Nat.zero_le _, J0.out, HB.out, Below.refl _ _, by simp⟩
    case round =>
    obtain ⟨q, rfl, rfl, hq, j0, hB, hB2, hE⟩ := hrel
    obtain ⟨Y, eY⟩ : ∃ Y, (Z != Geo.par F ((Geo.ring l[k]).take q)) = Y := ⟨_, rfl⟩
    rw [eY]
    have hu : wr.cell? ⟨g1, k, none⟩ = some (.slice p2 m cap2) := (World.cell?_of_block (hB2.block g1 lg1)).trans HU.out
    have lg1' : g1 < wr.heap.size := by have := hB2.size; omega
    by_cases hlq : q < m
    · have hql : q < (l[k]).length := by rw [EM.out]; exact hlq
      obtain ⟨p3, cap3, e3, h3⟩ := PT.out.below hB2 (Nat.le_refl _)
      obtain ⟨g2, rfl, _, lg2, h3⟩ := h3 (by intro e; rw [e] at hql; simp at hql)
      injection e3 with e3 e3n e3'
      subst e3 e3'
      clear e3n
      have hr : (q + 1) % m < m := Nat.mod_lt _ (by omega)
      obtain ⟨r, er⟩ : ∃ r, (q + 1) % m = r := ⟨_, rfl⟩
      rw [er] at hr
      have hrl : r < (l[k]).length := by rw [EM.out]; exact hr
      obtain ⟨x0, x1⟩ := h3 q hql
      obtain ⟨y0, y1⟩ := h3 r hrl
      obtain ⟨⟨b1, b2⟩, b3, b4⟩ := few_at HF.out hkl hql
      obtain ⟨⟨b5, b6⟩, b7, b8⟩ := few_at HF.out hkl hrl
      have eq2 : (l[k])[(q + 1) % (l[k]).length]'(Nat.mod_lt _ (by omega)) = (l[k])[r] := by simp only [EM.out, er]
      obtain ⟨P, eP⟩ : ∃ P, (l[k])[q] = P := ⟨_, rfl⟩
      obtain ⟨Q, eQ⟩ : ∃ P, (l[k])[r] = P := ⟨_, rfl⟩
      have hrem := rem_next q m
      rw [er] at hrem
      have hki : (k : Int) < (n : Int) := by omega
      have hqi : (q : Int) < (m : Int) := by omega
      have hri : (r : Int) < (m : Int) := by omega
      have hm1 := fun w => C1.out _ _ _ _ w (Int.le_trans (by decide) b1) (Int.le_trans b2 (by decide)) (Int.le_trans (by decide) b3) (Int.le_trans b4 (by decide)) (Int.le_trans (by decide) b5) (Int.le_trans b6 (by decide)) (Int.le_trans (by decide) b7) (Int.le_trans b8 (by decide))
      have hst : (Z != Geo.par F ((Geo.ring l[k]).take (q + 1))) = (Y != F (P, Q)) := by
        rw [par_take hql, eq2, eP, eQ, ← eY]
        cases Z <;> cases Geo.par F ((Geo.ring l[k]).take q) <;> cases F (P, Q) <;> rfl
      have hhit : T (P, Q) = true → (Geo.edges l).any T = true := fun h => by
        refine any_hit hkl hql ?_
        rw [eq2, eP, eQ]; exact h
      have hmiss : T (P, Q) = false → ((Geo.ring l[k]).take (q + 1)).any T = false := fun h => by
        refine any_take hql hE ?_
        rw [eq2, eP, eQ]; exact h
      rw [eP] at x0 x1 hm1 b1 b2 b3 b4
      rw [eQ] at y0 y1 hm1 b5 b6 b7 b8
      obtain ⟨P1, P2⟩ := P
      obtain ⟨Q1, Q2⟩ := Q
      rw [EF.out] at hst
      simp only [] at x0 x1 y0 y1 hm1 b1 b2 b3 b4 b5 b6 b7 b8
      obtain ⟨TT, eTT⟩ : ∃ t, T ((P1, P2), (Q1, Q2)) = t := ⟨_, rfl⟩
      have hiff := ET.out P1 P2 Q1 Q2
      rw [eTT] at hiff hhit hmiss
      obtain ⟨K, eK⟩ : ∃ K, Geo.cross P1 P2 Q1 Q2 px py = K := ⟨_, rfl⟩
      rw [eK] at hm1 hst hiff
      obtain ⟨U, eU⟩ : ∃ t, (decide (P2 ≤ py) && decide (py < Q2)) = t := ⟨_, rfl⟩
      obtain ⟨D, eD⟩ : ∃ t, (decide (Q2 ≤ py) && decide (py < P2)) = t := ⟨_, rfl⟩
      obtain ⟨KP, eKP⟩ : ∃ t, decide (0 < K) = t := ⟨_, rfl⟩
      obtain ⟨KN, eKN⟩ : ∃ t, decide (K < 0) = t := ⟨_, rfl⟩
      rw [eU, eD, eKP, eKN] at hst
      have HM1 := Lib.hid hm1
      have HST := Lib.hid hst
      have HHIT := Lib.hid hhit
      have HMISS := Lib.hid hmiss
      have HIFF := Lib.hid hiff
      have EU := Lib.hid eU
      have ED := Lib.hid eD
      have EKP := Lib.hid eKP
      have EKN := Lib.hid eKN
      have J0 := Lib.hid j0
      have HB := Lib.hid hB
      have HB2 := Lib.hid hB2
      have lb := j0.lt
      have hwx := hB.size
      have lw : w.heap.size < wr.heap.size := lb
      clear h3 hm1 eq2 eP eQ eTT hst hhit hmiss hiff eK eU eD eKP eKN j0 hB hB2 eY er hE b1 b2 b3 b4 b5 b6 b7 b8
      have hu1 : ∀ o, (wr.alloc o).cell? ⟨g1, k, none⟩ = some (.slice (some ⟨g2, 0, none⟩) m cap2) := fun o => (World.cell?_of_block (Below.heap_alloc wr o _ lg1')).trans hu
      have x01 : ∀ o, (wr.alloc o).cell? ⟨g2, q * 2, none⟩ = some (.int .i64 P1) := fun o => (World.cell?_of_block (Below.heap_alloc wr o _ lg2)).trans x0
      have x11 : ∀ o, (wr.alloc o).cell? ⟨g2, q * 2 + 1, none⟩ = some (.int .i64 P2) := fun o => (World.cell?_of_block (Below.heap_alloc wr o _ lg2)).trans x1
      have y01 : ∀ o, (wr.alloc o).cell? ⟨g2, r * 2, none⟩ = some (.int .i64 Q1) := fun o => (World.cell?_of_block (Below.heap_alloc wr o _ lg2)).trans y0
      have y11 : ∀ o, (wr.alloc o).cell? ⟨g2, r * 2 + 1, none⟩ = some (.int .i64 Q2) := fun o => (World.cell?_of_block (Below.heap_alloc wr o _ lg2)).trans y1
      have hu2 : ∀ o o', ((wr.alloc o).alloc o').cell? ⟨g1, k, none⟩ = some (.slice (some ⟨g2, 0, none⟩) m cap2) := fun o o' => (World.cell?_of_block (Below.heap_alloc (wr.alloc o) o' _ (by simp; omega))).trans (hu1 o)
      have x02 : ∀ o o', ((wr.alloc o).alloc o').cell? ⟨g2, q * 2, none⟩ = some (.int .i64 P1) := fun o o' => (World.cell?_of_block (Below.heap_alloc (wr.alloc o) o' _ (by simp; omega))).trans (x01 o)
      have x12 : ∀ o o', ((wr.alloc o).alloc o').cell? ⟨g2, q * 2 + 1, none⟩ = some (.int .i64 P2) := fun o o' => (World.cell?_of_block (Below.heap_alloc (wr.alloc o) o' _ (by simp; omega))).trans (x11 o)
      have y02 : ∀ o o', ((wr.alloc o).alloc o').cell? ⟨g2, r * 2, none⟩ = some (.int .i64 Q1) := fun o o' => (World.cell?_of_block (Below.heap_alloc (wr.alloc o) o' _ (by simp; omega))).trans (y01 o)
      have y12 : ∀ o o', ((wr.alloc o).alloc o').cell? ⟨g2, r * 2 + 1, none⟩ = some (.int .i64 Q2) := fun o o' => (World.cell?_of_block (Below.heap_alloc (wr.alloc o) o' _ (by simp; omega))).trans (y11 o)
      go_upto_region 8 with fail
      go_cut [8, 9] (fun v8 v9 wx => ∃ ga gb, v8 = .pointer (some ⟨ga, 0, none⟩) ∧ v9 = .pointer (some ⟨gb, 0, none⟩) ∧ Blk wx ga 58 #[.int .i64 P1, .int .i64 P2] ∧ Blk wx gb 58 #[.int .i64 Q1, .int .i64 Q2] ∧ Below wr.heap.size wr wx)
      case first =>
        go_region
        all_goals
          go_wp2
          go_meet
          first
          | exact ⟨wr.heap.size, wr.heap.size + 1, rfl, rfl, by exact bkw, by exact bkw, by exact blw⟩
          | exact ⟨wr.heap.size + 1, wr.heap.size, rfl, rfl, by exact bkw, by exact bkw, by exact blw⟩
      case rest =>
      obtain ⟨ga, gb, rfl, rfl, kG, kH, hBc⟩ := hcut
      clear hu1 x01 x11 y01 y11 hu2 x02 x12 y02 y12 x0 x1 y0 y1 hu lg1' lg2 hrem
      have jp := J0.out.below hBc lb
      have cp := jp.cell
      have lp := jp.lt
      have cG := kG.cell
      have lG := kG.lt
      have cH := kH.cell
      have lH := kH.lt
      have JP := Lib.hid jp
      have JG := Lib.hid kG
      have JH := Lib.hid kH
      have HBC := Lib.hid hBc
      clear jp kG kH hBc
      go_wp2_with fail
      refine (HM1.out _).mono ?_
      rintro e w1 ⟨rfl, hb⟩
      have jp := JP.out.below hb JP.out.lt
      have kG := JG.out.below hb JG.out.lt
      have kH := JH.out.below hb JH.out.lt
      have HB1 := Lib.hid (HBC.out.trans (hb.mono HBC.out.size))
      clear cp lp cG lG cH lH hb
      have cp := jp.cell
      have lp := jp.lt
      have cG := kG.cell
      have lG := kG.lt
      have cH := kH.cell
      have lH := kH.lt
      clear jp kG kH JP JG JH
      go_upto_region 10 with fail
      go_cut [94] (fun v wx => v = .bool TT ∧ wx = w1)
      case first =>
        have hiff := HIFF.out
        by_cases hK : K = 0
        · have dK : (K == 0) = true := by simp [hK]
          rcases Int.lt_or_le Q1 P1 with h1 | h1 <;> rcases Int.lt_or_le Q2 P2 with h2 | h2
          · by_cases g1 : px < Q1
            · have eTT : TT = false := by
                cases TT
                · rfl
                · exact absurd (hiff.1 rfl) (by omega)
              clear hiff hK
              go_wp2_with fail
              go_meet
              exact ⟨congrArg Value.bool (by first | (rw [eTT]; done) | (rw [eTT]; exact decide_eq_false (by omega)) | (rw [eTT]; exact decide_eq_true (by omega))), rfl⟩
            by_cases g2 : P1 < px
            · have eTT : TT = false := by
                cases TT
                · rfl
                · exact absurd (hiff.1 rfl) (by omega)
              clear hiff hK
              go_wp2_with fail
              go_meet
              exact ⟨congrArg Value.bool (by first | (rw [eTT]; done) | (rw [eTT]; exact decide_eq_false (by omega)) | (rw [eTT]; exact decide_eq_true (by omega))), rfl⟩
            by_cases g3 : py < Q2
            · have eTT : TT = false := by
                cases TT
                · rfl
                · exact absurd (hiff.1 rfl) (by omega)
              clear hiff hK
              go_wp2_with fail
              go_meet
              exact ⟨congrArg Value.bool (by first | (rw [eTT]; done) | (rw [eTT]; exact decide_eq_false (by omega)) | (rw [eTT]; exact decide_eq_true (by omega))), rfl⟩
            by_cases g4 : P2 < py
            · have eTT : TT = false := by
                cases TT
                · rfl
                · exact absurd (hiff.1 rfl) (by omega)
              clear hiff hK
              go_wp2_with fail
              go_meet
              exact ⟨congrArg Value.bool (by first | (rw [eTT]; done) | (rw [eTT]; exact decide_eq_false (by omega)) | (rw [eTT]; exact decide_eq_true (by omega))), rfl⟩
            · have eTT : TT = true := hiff.2 (by omega)
              clear hiff hK
              go_wp2_with fail
              go_meet
              exact ⟨congrArg Value.bool (by first | (rw [eTT]; done) | (rw [eTT]; exact decide_eq_false (by omega)) | (rw [eTT]; exact decide_eq_true (by omega))), rfl⟩
          · by_cases g1 : px < Q1
            · have eTT : TT = false := by
                cases TT
                · rfl
                · exact absurd (hiff.1 rfl) (by omega)
              clear hiff hK
              go_wp2_with fail
              go_meet
              exact ⟨congrArg Value.bool (by first | (rw [eTT]; done) | (rw [eTT]; exact decide_eq_false (by omega)) | (rw [eTT]; exact decide_eq_true (by omega))), rfl⟩
            by_cases g2 : P1 < px
            · have eTT : TT = false := by
                cases TT
                · rfl
                · exact absurd (hiff.1 rfl) (by omega)
              clear hiff hK
              go_wp2_with fail
              go_meet
              exact ⟨congrArg Value.bool (by first | (rw [eTT]; done) | (rw [eTT]; exact decide_eq_false (by omega)) | (rw [eTT]; exact decide_eq_true (by omega))), rfl⟩
            by_cases g3 : py < P2
            · have eTT : TT = false := by
                cases TT
                · rfl
                · exact absurd (hiff.1 rfl) (by omega)
              clear hiff hK
              go_wp2_with fail
              go_meet
              exact ⟨congrArg Value.bool (by first | (rw [eTT]; done) | (rw [eTT]; exact decide_eq_false (by omega)) | (rw [eTT]; exact decide_eq_true (by omega))), rfl⟩
            by_cases g4 : Q2 < py
            · have eTT : TT = false := by
                cases TT
                · rfl
                · exact absurd (hiff.1 rfl) (by omega)
              clear hiff hK
              go_wp2_with fail
              go_meet
              exact ⟨congrArg Value.bool (by first | (rw [eTT]; done) | (rw [eTT]; exact decide_eq_false (by omega)) | (rw [eTT]; exact decide_eq_true (by omega))), rfl⟩
            · have eTT : TT = true := hiff.2 (by omega)
              clear hiff hK
              go_wp2_with fail
              go_meet
              exact ⟨congrArg Value.bool (by first | (rw [eTT]; done) | (rw [eTT]; exact decide_eq_false (by omega)) | (rw [eTT]; exact decide_eq_true (by omega))), rfl⟩
          · by_cases g1 : px < P1
            · have eTT : TT = false := by
                cases TT
                · rfl
                · exact absurd (hiff.1 rfl) (by omega)
              clear hiff hK
              go_wp2_with fail
              go_meet
              exact ⟨congrArg Value.bool (by first | (rw [eTT]; done) | (rw [eTT]; exact decide_eq_false (by omega)) | (rw [eTT]; exact decide_eq_true (by omega))), rfl⟩
            by_cases g2 : Q1 < px
            · have eTT : TT = false := by
                cases TT
                · rfl
                · exact absurd (hiff.1 rfl) (by omega)
              clear hiff hK
              go_wp2_with fail
              go_meet
              exact ⟨congrArg Value.bool (by first | (rw [eTT]; done) | (rw [eTT]; exact decide_eq_false (by omega)) | (rw [eTT]; exact decide_eq_true (by omega))), rfl⟩
            by_cases g3 : py < Q2
            · have eTT : TT = false := by
                cases TT
                · rfl
                · exact absurd (hiff.1 rfl) (by omega)
              clear hiff hK
              go_wp2_with fail
              go_meet
              exact ⟨congrArg Value.bool (by first | (rw [eTT]; done) | (rw [eTT]; exact decide_eq_false (by omega)) | (rw [eTT]; exact decide_eq_true (by omega))), rfl⟩
            by_cases g4 : P2 < py
            · have eTT : TT = false := by
                cases TT
                · rfl
                · exact absurd (hiff.1 rfl) (by omega)
              clear hiff hK
              go_wp2_with fail
              go_meet
              exact ⟨congrArg Value.bool (by first | (rw [eTT]; done) | (rw [eTT]; exact decide_eq_false (by omega)) | (rw [eTT]; exact decide_eq_true (by omega))), rfl⟩
            · have eTT : TT = true := hiff.2 (by omega)
              clear hiff hK
              go_wp2_with fail
              go_meet
              exact ⟨congrArg Value.bool (by first | (rw [eTT]; done) | (rw [eTT]; exact decide_eq_false (by omega)) | (rw [eTT]; exact decide_eq_true (by omega))), rfl⟩
          · by_cases g1 : px < P1
            · have eTT : TT = false := by
                cases TT
                · rfl
                · exact absurd (hiff.1 rfl) (by omega)
              clear hiff hK
              go_wp2_with fail
              go_meet
              exact ⟨congrArg Value.bool (by first | (rw [eTT]; done) | (rw [eTT]; exact decide_eq_false (by omega)) | (rw [eTT]; exact decide_eq_true (by omega))), rfl⟩
            by_cases g2 : Q1 < px
            · have eTT : TT = false := by
                cases TT
                · rfl
                · exact absurd (hiff.1 rfl) (by omega)
              clear hiff hK
              go_wp2_with fail
              go_meet
              exact ⟨congrArg Value.bool (by first | (rw [eTT]; done) | (rw [eTT]; exact decide_eq_false (by omega)) | (rw [eTT]; exact decide_eq_true (by omega))), rfl⟩
            by_cases g3 : py < P2
            · have eTT : TT = false := by
                cases TT
                · rfl
                · exact absurd (hiff.1 rfl) (by omega)
              clear hiff hK
              go_wp2_with fail
              go_meet
              exact ⟨congrArg Value.bool (by first | (rw [eTT]; done) | (rw [eTT]; exact decide_eq_false (by omega)) | (rw [eTT]; exact decide_eq_true (by omega))), rfl⟩
            by_cases g4 : Q2 < py
            · have eTT : TT = false := by
                cases TT
                · rfl
                · exact absurd (hiff.1 rfl) (by omega)
              clear hiff hK
              go_wp2_with fail
              go_meet
              exact ⟨congrArg Value.bool (by first | (rw [eTT]; done) | (rw [eTT]; exact decide_eq_false (by omega)) | (rw [eTT]; exact decide_eq_true (by omega))), rfl⟩
            · have eTT : TT = true := hiff.2 (by omega)
              clear hiff hK
              go_wp2_with fail
              go_meet
              exact ⟨congrArg Value.bool (by first | (rw [eTT]; done) | (rw [eTT]; exact decide_eq_false (by omega)) | (rw [eTT]; exact decide_eq_true (by omega))), rfl⟩
        · have dK : (K == 0) = false := by simp; omega
          have eTT : TT = false := by
            cases TT
            · rfl
            · exact absurd (hiff.1 rfl).1 hK
          clear hiff
          go_wp2_with fail
          go_meet
          exact ⟨congrArg Value.bool (by first | (rw [eTT]; done) | (rw [eTT]; exact decide_eq_false (by omega)) | (rw [eTT]; exact decide_eq_true (by omega))), rfl⟩
      case rest =>
      obtain ⟨rfl, rfl⟩ := hcut
      cases TT
      · have HM := Lib.hid (HMISS.out rfl)
        clear HMISS HHIT HIFF
        go_upto_region 12 with fail
        go_cut [11, 12] (fun u d wx => u = .bool U ∧ d = .bool D ∧ Below wc.heap.size wc wx)
        case first =>
          have eU := EU.out
          have eD := ED.out
          rcases Int.lt_or_le py P2 with h1 | h1 <;> rcases Int.lt_or_le py Q2 with h2 | h2
          · have s1 : decide (P2 ≤ py) = false := by simp; omega
            have s2 : decide (Q2 ≤ py) = false := by simp; omega
            have s3 : decide (py < P2) = true := by simp; omega
            have s4 : decide (py < Q2) = true := by simp; omega
            rw [s1, s4] at eU
            rw [s2, s3] at eD
            subst eU eD
            go_quiet (fail)
            go_wp2
            go_meet
            exact ⟨rfl, rfl, by exact blw⟩
          · have s1 : decide (P2 ≤ py) = false := by simp; omega
            have s2 : decide (Q2 ≤ py) = true := by simp; omega
            have s3 : decide (py < P2) = true := by simp; omega
            have s4 : decide (py < Q2) = false := by simp; omega
            rw [s1, s4] at eU
            rw [s2, s3] at eD
            subst eU eD
            go_quiet (fail)
            go_wp2
            go_meet
            exact ⟨rfl, rfl, by exact blw⟩
          · have s1 : decide (P2 ≤ py) = true := by simp; omega
            have s2 : decide (Q2 ≤ py) = false := by simp; omega
            have s3 : decide (py < P2) = false := by simp; omega
            have s4 : decide (py < Q2) = true := by simp; omega
            rw [s1, s4] at eU
            rw [s2, s3] at eD
            subst eU eD
            go_quiet (fail)
            go_wp2
            go_meet
            exact ⟨rfl, rfl, by exact blw⟩
          · have s1 : decide (P2 ≤ py) = true := by simp; omega
            have s2 : decide (Q2 ≤ py) = true := by simp; omega
            have s3 : decide (py < P2) = false := by simp; omega
            have s4 : decide (py < Q2) = false := by simp; omega
            rw [s1, s4] at eU
            rw [s2, s3] at eD
            subst eU eD
            go_quiet (fail)
            go_wp2
            go_meet
            exact ⟨rfl, rfl, by exact blw⟩
        case rest =>
        obtain ⟨rfl, rfl, hBd⟩ := hcut
        have HBD := Lib.hid (HB1.out.trans (hBd.mono HB1.out.size))
        have hst := HST.out
        have eKP := EKP.out
        have eKN := EKN.out
        clear hBd cp lp cG lG cH lH HST
        cases U <;> cases D <;> cases KP <;> cases KN
        all_goals
          have HS := Lib.hid hst
          clear hst
          go_wp2_with fail
          go_roundw
          case rel =>
            have hs := HS.out
            first
            | (have hr2 : ∃ q' : Nat, Value.int .i64 ((q : Int) + 1) = .int .i64 (q' : Int) ∧ Value.bool Y = .bool (Z != Geo.par F ((Geo.ring l[k]).take q')) ∧ q' ≤ m ∧ Blk wc w.heap.size 58 #[.int .i64 px, .int .i64 py] ∧ Below w.heap.size w wc ∧ Below WR.heap.size WR wc ∧ ((Geo.ring l[k]).take q').any T = false := ⟨q + 1, by go_num, by rw [hs]; simp, by omega, J0.out.below HBD.out lb, HB.out.trans (HBD.out.mono hwx), HB2.out.trans (HBD.out.mono HB2.out.size), HM.out⟩; first | exact hr2 | ((repeat apply Exists.intro); exact ⟨hr2, rfl⟩))
            | (have hr2 : ∃ q' : Nat, Value.int .i64 ((q : Int) + 1) = .int .i64 (q' : Int) ∧ Value.bool (!Y) = .bool (Z != Geo.par F ((Geo.ring l[k]).take q')) ∧ q' ≤ m ∧ Blk wc w.heap.size 58 #[.int .i64 px, .int .i64 py] ∧ Below w.heap.size w wc ∧ Below WR.heap.size WR wc ∧ ((Geo.ring l[k]).take q').any T = false := ⟨q + 1, by go_num, by rw [hs]; cases Y <;> rfl, by omega, J0.out.below HBD.out lb, HB.out.trans (HBD.out.mono hwx), HB2.out.trans (HBD.out.mono HB2.out.size), HM.out⟩; first | exact hr2 | ((repeat apply Exists.intro); exact ⟨hr2, rfl⟩))
          case measure => simp [intOf]; omega
      · have HH := Lib.hid (HHIT.out rfl)
        clear HMISS HHIT HIFF
        clear cp lp cG lG cH lH
        go_wp2_with fail
        go_ret
        exact ⟨by rw [HH.out]; rfl, HB.out.trans (HB1.out.mono hwx)⟩
    · have e : q = m := by omega
      subst e
      have hE2 : Geo.par F (Geo.edges (l.take (k + 1))) = Y := by
        rw [edges_succ l k hkl, Geo.par_append, EZ.out, ← eY]
        rw [List.take_of_length_le (by rw [ring_len, EM.out]; omega)]
      have hE3 : (Geo.edges (l.take (k + 1))).any T = false := by
        rw [edges_succ l k hkl, List.any_append, HE.out]
        rw [List.take_of_length_le (by rw [ring_len, EM.out]; omega)] at hE
        rw [hE]; rfl
      have HE2 := Lib.hid hE2
      have HE3 := Lib.hid hE3
      have J0 := Lib.hid j0
      have HB := Lib.hid hB
      clear hE2 hE3 eY j0 hB hB2 EM PT hE
      go_wp2_with fail
      go_roundw
      case rel =>
        have hr2 : ∃ k' : Nat, Value.int .i64 ((k : Int) + 1) = .int .i64 (k' : Int) ∧ Value.bool Y = .bool (Geo.par F (Geo.edges (l.take k'))) ∧ k' ≤ n ∧ Blk wr w.heap.size 58 #[.int .i64 px, .int .i64 py] ∧ Below w.heap.size w wr ∧ (Geo.edges (l.take k')).any T = false := ⟨k + 1, by go_num, by rw [HE2.out], by omega, J0.out, HB.out, HE3.out⟩
        first | exact hr2 | ((repeat apply Exists.intro); exact ⟨hr2, rfl⟩)
      case measure => simp [intOf]; omega
  · have e : k = n := by omega
    subst e
    have hZ : Geo.par F (Geo.edges l) = Z := by
      have h9 := EZ.out
      rw [List.take_of_length_le (by rw [HL.out]; omega)] at h9
      exact h9
    rw [List.take_of_length_le (by rw [HL.out]; omega)] at hE
    have HE := Lib.hid hE
    have HZ := Lib.hid hZ
    have HB := Lib.hid hB
    clear hE hZ hB j0
    go_wp2_with fail
    go_ret
    exact ⟨by rw [HE.out, HZ.out]; rfl, HB.out⟩
end Go.Proofs.YtfajckkbinbpiaaGreatDoor
