/- Walks: contours: is a point inside; the class of a box. Walks: package figure: shapes that may be. -/
import Derived.Test.YtfajckkbinbpiaaGreatDoorJ02
import Derived.Test.YtfajckkbinbpiaaGreatDoorJ20
namespace Go.Proofs.YtfajckkbinbpiaaGreatDoor
set_option maxRecDepth 100000
set_option maxHeartbeats 32000000
set_option linter.unusedVariables false
set_option linter.unusedSimpArgs false
open Go.RowKit
theorem odd_c (px py : Int) (S : List Nat) (v : Value) (l : List (List Geo.Pt)) (w : World) (hP : PolyAt S w v l) (hF : FarOk l) (hl : l.length ≤ 100000) (hc : ∀ c ∈ l, c.length ≤ 100000) (px_0 : -536870912 ≤ px) (px_1 : px ≤ 536870912) (py_0 : -536870912 ≤ py) (py_1 : py ≤ 536870912) :
    Calls Tryz.prog 286 #[.agg #[.int .i64 px, .int .i64 py], v] w fun e w' => e = .returned (.bool (Geo.odd (px, py) l)) ∧ Below w.heap.size w w' := by
  have n1 := fun ax ay ex ey w (h1 : -536870912 ≤ ax) h2 (h3 : -536870912 ≤ ay) h4 (h5 : -536870912 ≤ ex) h6 (h7 : -536870912 ≤ ey) h8 => crosses_c px py ax ay ex ey w px_0 px_1 py_0 py_1 h1 h2 h3 h4 h5 h6 h7 h8
  have C1 := Lib.hid n1
  clear n1 px_0 px_1 py_0 py_1
  unfold Geo.odd
  obtain ⟨F, eF⟩ : ∃ F : Geo.Pt × Geo.Pt → Bool, (fun e => Geo.crs (px, py).1 (px, py).2 e.1.1 e.1.2 e.2.1 e.2.2) = F := ⟨_, rfl⟩
  rw [eF]
  have eF2 : ∀ x y z u, Geo.crs px py x y z u = F ((x, y), (z, u)) := by rw [← eF]; exact fun _ _ _ _ => rfl
  have EF := Lib.hid eF2
  clear eF eF2
  obtain ⟨p, cap, rfl, hp⟩ := hP
  obtain ⟨n, en⟩ : ∃ n, l.length = n := ⟨_, rfl⟩
  have PA : Hid (PolyAt S w (.slice p n cap) l) := Lib.hid ⟨p, cap, by rw [en], hp⟩
  have HF := Lib.hid hF
  have HL := Lib.hid en
  have HC := Lib.hid hc
  rw [en] at hl ⊢
  clear hp hF en hc
  go_enter Tryz.func286, Tryz.ntmps286
  go_wp2_with fail
  go_loopw [5, 12] (fun z i wr => ∃ k : Nat, i = .int .i64 (k : Int) ∧ z = .bool (Geo.par F (Geo.edges (l.take k))) ∧ k ≤ n ∧ Blk wr w.heap.size 58 #[.int .i64 px, .int .i64 py] ∧ Below w.heap.size w wr) (fun z i wr => n - (intOf i).toNat)
  case atStart => exact ⟨0, rfl, rfl, Nat.zero_le _, by exact bkw, by exact blw⟩
  case round =>
  obtain ⟨k, rfl, rfl, hk, j0, hB⟩ := hrel
  obtain ⟨Z, eZ⟩ : ∃ Z, Geo.par F (Geo.edges (l.take k)) = Z := ⟨_, rfl⟩
  have EZ := Lib.hid eZ
  rw [eZ]
  clear eZ
  by_cases hlt : k < n
  · have hkl : k < l.length := by rw [HL.out]; exact hlt
    obtain ⟨p1, cap1, e1, h1⟩ := PA.out.below hB (Nat.le_refl _)
    obtain ⟨g1, rfl, _, lg1, h1⟩ := h1 (by intro e; rw [e] at hkl; simp at hkl)
    injection e1 with e1 e1n e1'
    subst e1 e1'
    clear e1n
    obtain ⟨u, hu, p2, cap2, rfl, h2⟩ := h1 k hkl
    obtain ⟨m, em⟩ : ∃ m, (l[k]).length = m := ⟨_, rfl⟩
    have hm : m ≤ 100000 := by rw [← em]; exact HC.out _ (List.getElem_mem hkl)
    rw [em] at hu
    have PT : Hid (PtsAt S wr (.slice p2 m cap2) l[k]) := Lib.hid ⟨p2, cap2, by rw [em], h2⟩
    have EM := Lib.hid em
    have J0 := Lib.hid j0
    have HB := Lib.hid hB
    have hw := hB.size
    obtain ⟨WR, eWR⟩ : ∃ W, wr = W := ⟨_, rfl⟩
    rw [eWR] at PT J0 HB hw hu
    rw [eWR]
    clear eWR h1 h2 em j0 hB
    go_wp2_with fail
    go_loopw [5, 18] (fun z j wx => ∃ q : Nat, j = .int .i64 (q : Int) ∧ z = .bool (Z != Geo.par F ((Geo.ring l[k]).take q)) ∧ q ≤ m ∧ Blk wx w.heap.size 58 #[.int .i64 px, .int .i64 py] ∧ Below w.heap.size w wx ∧ Below WR.heap.size WR wx) (fun z j wx => m - (intOf j).toNat)
    case atStart => exact ⟨0, rfl, by simp [Geo.par], Nat.zero_le _, J0.out, HB.out, Below.refl _ _⟩
    case round =>
    obtain ⟨q, rfl, rfl, hq, j0, hB, hB2⟩ := hrel
    obtain ⟨Y, eY⟩ : ∃ Y, (Z != Geo.par F ((Geo.ring l[k]).take q)) = Y := ⟨_, rfl⟩
    rw [eY]
    by_cases hlq : q < m
    · have hql : q < (l[k]).length := by rw [EM.out]; exact hlq
      obtain ⟨p3, cap3, e3, h3⟩ := PT.out.below hB2 (Nat.le_refl _)
      obtain ⟨g2, rfl, _, lg2, h3⟩ := h3 (by intro e; rw [e] at hql; simp at hql)
      injection e3 with e3 e3n e3'
      subst e3 e3'
      clear e3n
      have hr : (q + 1) % m < m := Nat.mod_lt _ (by omega)
      obtain ⟨r, er⟩ : ∃ r, (q + 1) % m = r := ⟨_, rfl⟩
      rw [er] at hr
      have hrl : r < (l[k]).length := by rw [EM.out]; exact hr
      obtain ⟨x0, x1⟩ := h3 q hql
      obtain ⟨y0, y1⟩ := h3 r hrl
      obtain ⟨⟨b1, b2⟩, b3, b4⟩ := HF.out.at hkl hql
      obtain ⟨⟨b5, b6⟩, b7, b8⟩ := HF.out.at hkl hrl
      have hm1 := fun w => C1.out _ _ _ _ w b1 b2 b3 b4 b5 b6 b7 b8
      have eq2 : (l[k])[(q + 1) % (l[k]).length]'(Nat.mod_lt _ (by omega)) = (l[k])[r] := by simp only [EM.out, er]
      obtain ⟨P, eP⟩ : ∃ P, (l[k])[q] = P := ⟨_, rfl⟩
      obtain ⟨Q, eQ⟩ : ∃ P, (l[k])[r] = P := ⟨_, rfl⟩
      have hst : (Z != Geo.par F ((Geo.ring l[k]).take (q + 1))) = (Y != F (P, Q)) := by
        rw [par_take hql, eq2, eP, eQ, ← eY]
        cases Z <;> cases Geo.par F ((Geo.ring l[k]).take q) <;> cases F (P, Q) <;> rfl
      rw [eP] at x0 x1 hm1
      rw [eQ] at y0 y1 hm1
      
      obtain ⟨P1, P2⟩ := P
      obtain ⟨Q1, Q2⟩ := Q
      simp only [EF.out] at x0 x1 y0 y1 hm1
      obtain ⟨T, eT⟩ : ∃ T, F ((P1, P2), (Q1, Q2)) = T := ⟨_, rfl⟩
      rw [eT] at hm1 hst
      have HM1 := Lib.hid hm1
      have HST := Lib.hid hst
      have hrem := rem_next q m
      rw [er] at hrem
      have J0 := Lib.hid j0
      have HB := Lib.hid hB
      have HB2 := Lib.hid hB2
      have lb := j0.lt
      have hwx := hB.size
      clear h3 b1 b2 b3 b4 b5 b6 b7 b8 hm1 eq2 eP eQ eT hst j0 hB hB2 eY er
      go_wp2_with fail
      obtain ⟨vv, ev⟩ : ∃ v, wr.alloc (.cells #[.int .i64 P1, .int .i64 P2] 58) = v := ⟨_, rfl⟩
      have bv : Below wr.heap.size wr vv := by rw [← ev]; exact blw
      have kp : Blk vv wr.heap.size 58 #[.int .i64 P1, .int .i64 P2] := by rw [← ev]; exact bkw
      have kb := J0.out.below bv lb
      have sv := bv.size
      rw [ev]
      have z0 := cell_regrown (show vv.cell? ⟨w.heap.size, 0, none⟩ = some (.int .i64 px) from kb.cell 0)
      have z1 := cell_regrown (show vv.cell? ⟨w.heap.size, 1, none⟩ = some (.int .i64 py) from kb.cell 1)
      have z4 := cell_regrown (show vv.cell? ⟨wr.heap.size, 0, none⟩ = some (.int .i64 P1) from kp.cell 0)
      have z5 := cell_regrown (show vv.cell? ⟨wr.heap.size, 1, none⟩ = some (.int .i64 P2) from kp.cell 1)
      have z6 := cell_regrown (show vv.cell? ⟨g2, r * 2, none⟩ = some (.int .i64 Q1) from ((bcell bv).1 _ _ (blk_of_cell y0)).trans y0)
      have z7 := cell_regrown (show vv.cell? ⟨g2, r * 2 + 1, none⟩ = some (.int .i64 Q2) from ((bcell bv).1 _ _ (blk_of_cell y0)).trans y1)
      have m1 : ∀ d' os, Calls Tryz.prog 337 #[.agg #[.int .i64 px, .int .i64 py], .agg #[.int .i64 P1, .int .i64 P2], .agg #[.int .i64 Q1, .int .i64 Q2]] (Go.Sort.grow (redrawn vv d') os) fun e w'' => e = .returned (.bool T) ∧ ∃ p : Regrown, w'' = Go.Sort.grow (redrawn vv p.d) p.os := fun d' os => Calls.regrown_of (HM1.out _)
      have M1 := Lib.hid m1
      have BV := Lib.hid bv
      clear m1 ev kp kb bv x0 x1 y0 y1
      refine wp_region_quiet_below (by kernel_rfl) (by kernel_rfl) ?_
      repeat (first | go_big_quiet_step (with_reducible exact M1.out _ _) | quiet_step (with_reducible exact M1.out _ _))
      refine wpQuiet_nil ?_
      intro w1 hw'
      have hb : Below vv.heap.size vv w1 := by obtain ⟨p, rfl⟩ := hw'; exact below_regrown _ _ _
      have HB1 := Lib.hid (BV.out.trans (hb.mono sv))
      clear hw' hb z0 z1 z4 z5 z6 z7 hrem
      cases T
      · have HM := Lib.hid HST.out
        clear HST
        go_wp2_with fail
        go_roundw
        case rel =>
          have hr2 : ∃ q' : Nat, Value.int .i64 ((q : Int) + 1) = .int .i64 (q' : Int) ∧ Value.bool Y = .bool (Z != Geo.par F ((Geo.ring l[k]).take q')) ∧ q' ≤ m ∧ Blk w1 w.heap.size 58 #[.int .i64 px, .int .i64 py] ∧ Below w.heap.size w w1 ∧ Below WR.heap.size WR w1 := ⟨q + 1, by go_num, by rw [HM.out]; simp, by omega, J0.out.below HB1.out lb, HB.out.trans (HB1.out.mono hwx), HB2.out.trans (HB1.out.mono HB2.out.size)⟩
          first | exact hr2 | ((repeat apply Exists.intro); exact ⟨hr2, rfl⟩)
        case measure => simp [intOf]; omega
      · have HM := Lib.hid HST.out
        clear HST
        go_wp2_with fail
        go_roundw
        case rel =>
          have hr2 : ∃ q' : Nat, Value.int .i64 ((q : Int) + 1) = .int .i64 (q' : Int) ∧ Value.bool (!Y) = .bool (Z != Geo.par F ((Geo.ring l[k]).take q')) ∧ q' ≤ m ∧ Blk w1 w.heap.size 58 #[.int .i64 px, .int .i64 py] ∧ Below w.heap.size w w1 ∧ Below WR.heap.size WR w1 := ⟨q + 1, by go_num, by rw [HM.out]; cases Y <;> rfl, by omega, J0.out.below HB1.out lb, HB.out.trans (HB1.out.mono hwx), HB2.out.trans (HB1.out.mono HB2.out.size)⟩
          first | exact hr2 | ((repeat apply Exists.intro); exact ⟨hr2, rfl⟩)
        case measure => simp [intOf]; omega
    · have e : q = m := by omega
      subst e
      have hE2 : Geo.par F (Geo.edges (l.take (k + 1))) = Y := by
        rw [edges_succ l k hkl, Geo.par_append, EZ.out, ← eY]
        rw [List.take_of_length_le (by rw [ring_len, EM.out]; omega)]
      have HE2 := Lib.hid hE2
      have J0 := Lib.hid j0
      have HB := Lib.hid hB
      clear hE2 eY j0 hB hB2 EM PT
      go_wp2_with fail
      go_roundw
      case rel =>
        have hr2 : ∃ k' : Nat, Value.int .i64 ((k : Int) + 1) = .int .i64 (k' : Int) ∧ Value.bool Y = .bool (Geo.par F (Geo.edges (l.take k'))) ∧ k' ≤ n ∧ Blk wr w.heap.size 58 #[.int .i64 px, .int .i64 py] ∧ Below w.heap.size w wr := ⟨k + 1, by go_num, by rw [HE2.out], by omega, J0.out, HB.out⟩
        first | exact hr2 | ((repeat apply Exists.intro); exact ⟨hr2, rfl⟩)
      case measure => simp [intOf]; omega
  · have e : k = n := by omega
    subst e
    have hE : Geo.par F (Geo.edges l) = Z := by
      have h9 := EZ.out
      rw [List.take_of_length_le (by rw [HL.out]; omega)] at h9
      exact h9
    have HE := Lib.hid hE
    have HB := Lib.hid hB
    clear hE hB j0
    go_wp2_with fail
    go_ret
    exact ⟨by rw [HE.out]; rfl, HB.out⟩
theorem polyClass_c (a b c d : Int) (S : List Nat) (v : Value) (l : List (List Geo.Pt)) (w : World) (hP : PolyAt S w v l) (hF : FarOk l) (hl : l.length ≤ 100000) (hc : ∀ c ∈ l, c.length ≤ 100000) (a_0 : -536870912 ≤ a) (a_1 : a ≤ 536870912) (b_0 : -536870912 ≤ b) (b_1 : b ≤ 536870912) (c_0 : -536870912 ≤ c) (c_1 : c ≤ 536870912) (d_0 : -536870912 ≤ d) (d_1 : d ≤ 536870912) (ac : a ≤ c) (bd : b ≤ d) :
    Calls Tryz.prog 247 #[.agg #[.int .i64 a, .int .i64 b, .int .i64 c, .int .i64 d], v] w fun e w' => e = .returned (.int .i64 (Geo.polyC ⟨a, b, c, d⟩ l)) ∧ Below w.heap.size w w' := by
  have n1 := fun w h => touches_c a b c d S v l w h hF hl hc a_0 a_1 b_0 b_1 c_0 c_1 d_0 d_1 ac bd
  have n2 := fun w => has_corner a b c d w ac bd
  have n3 := fun w h => odd_c a b S v l w h hF hl hc a_0 a_1 b_0 b_1
  have ev : Geo.polyC ⟨a, b, c, d⟩ l = if (Geo.edges l).any (Geo.meets ⟨a, b, c, d⟩) = true then 1 else if Geo.odd (a, b) l = true then 2 else 0 := rfl
  rw [ev]
  obtain ⟨T, eT⟩ : ∃ T, (Geo.edges l).any (Geo.meets ⟨a, b, c, d⟩) = T := ⟨_, rfl⟩
  obtain ⟨O, eO⟩ : ∃ T, Geo.odd (a, b) l = T := ⟨_, rfl⟩
  rw [eT] at n1 ⊢
  rw [eO] at n3 ⊢
  have C1 := Lib.hid n1
  have C2 := Lib.hid n2
  have C3 := Lib.hid n3
  have HP := Lib.hid hP
  clear n1 n2 n3 ev eT eO hP hF hl hc a_0 a_1 b_0 b_1 c_0 c_1 d_0 d_1
  cases T
  · cases O
    · go_enter Tryz.func247, Tryz.ntmps247
      go_wp2_with fail
      refine (C1.out _ (HP.out.alloc _)).mono ?_
      rintro e w1 ⟨rfl, hb⟩
      have hB1 : Below w.heap.size w w1 := Below.trans (by exact blw) (hb.mono (by first | omega | (simp; done) | (simp; omega)))
      have k1_0 : Blk w1 (w.heap.size) 70 #[.int .i64 a, .int .i64 b, .int .i64 c, .int .i64 d] := Blk.below (by exact bkw) hb (by first | omega | (simp; done) | (simp; omega))
      have c1_0 := k1_0.cell
      have f1_0 := k1_0.frozen
      have l1_0 := k1_0.lt
      have l1 := hB1.size
      clear hb
      go_wp2_with fail
      refine (C2.out _).mono ?_
      rintro e w2 ⟨rfl, hb⟩
      have hB2 : Below w.heap.size w w2 := Below.trans (by exact blw) (hb.mono (by first | omega | (simp; done) | (simp; omega)))
      have k2_0 : Blk w2 (w.heap.size) 70 #[.int .i64 a, .int .i64 b, .int .i64 c, .int .i64 d] := Blk.below (by exact bkw) hb (by first | omega | (simp; done) | (simp; omega))
      have k2_1 : Blk w2 (w1.heap.size) 58 #[.int .i64 a, .int .i64 b] := Blk.below (by exact bkw) hb (by first | omega | (simp; done) | (simp; omega))
      have c2_0 := k2_0.cell
      have f2_0 := k2_0.frozen
      have l2_0 := k2_0.lt
      have c2_1 := k2_1.cell
      have f2_1 := k2_1.frozen
      have l2_1 := k2_1.lt
      have l2 := hB2.size
      clear hb k1_0 c1_0 f1_0 l1_0
      go_wp2_with fail
      refine (C3.out _ (HP.out.below hB2 (Nat.le_refl _))).mono ?_
      rintro e w3 ⟨rfl, hb⟩
      have hB3 : Below w.heap.size w w3 := Below.trans (by exact blw) (hb.mono (by first | omega | (simp; done) | (simp; omega)))
      have l3 := hB3.size
      clear hb
      go_wp2_with fail
      go_ret
      exact ⟨rfl, hB3⟩
    · go_enter Tryz.func247, Tryz.ntmps247
      go_wp2_with fail
      refine (C1.out _ (HP.out.alloc _)).mono ?_
      rintro e w1 ⟨rfl, hb⟩
      have hB1 : Below w.heap.size w w1 := Below.trans (by exact blw) (hb.mono (by first | omega | (simp; done) | (simp; omega)))
      have k1_0 : Blk w1 (w.heap.size) 70 #[.int .i64 a, .int .i64 b, .int .i64 c, .int .i64 d] := Blk.below (by exact bkw) hb (by first | omega | (simp; done) | (simp; omega))
      have c1_0 := k1_0.cell
      have f1_0 := k1_0.frozen
      have l1_0 := k1_0.lt
      have l1 := hB1.size
      clear hb
      go_wp2_with fail
      refine (C2.out _).mono ?_
      rintro e w2 ⟨rfl, hb⟩
      have hB2 : Below w.heap.size w w2 := Below.trans (by exact blw) (hb.mono (by first | omega | (simp; done) | (simp; omega)))
      have k2_0 : Blk w2 (w.heap.size) 70 #[.int .i64 a, .int .i64 b, .int .i64 c, .int .i64 d] := Blk.below (by exact bkw) hb (by first | omega | (simp; done) | (simp; omega))
      have k2_1 : Blk w2 (w1.heap.size) 58 #[.int .i64 a, .int .i64 b] := Blk.below (by exact bkw) hb (by first | omega | (simp; done) | (simp; omega))
      have c2_0 := k2_0.cell
      have f2_0 := k2_0.frozen
      have l2_0 := k2_0.lt
      have c2_1 := k2_1.cell
      have f2_1 := k2_1.frozen
      have l2_1 := k2_1.lt
      have l2 := hB2.size
      clear hb k1_0 c1_0 f1_0 l1_0
      go_wp2_with fail
      refine (C3.out _ (HP.out.below hB2 (Nat.le_refl _))).mono ?_
      rintro e w3 ⟨rfl, hb⟩
      have hB3 : Below w.heap.size w w3 := Below.trans (by exact blw) (hb.mono (by first | omega | (simp; done) | (simp; omega)))
      have l3 := hB3.size
      clear hb
      go_wp2_with fail
      go_ret
      exact ⟨rfl, hB3⟩
  · go_enter Tryz.func247, Tryz.ntmps247
    go_wp2_with fail
    refine (C1.out _ (HP.out.alloc _)).mono ?_
    rintro e w1 ⟨rfl, hb⟩
    have hB1 : Below w.heap.size w w1 := Below.trans (by exact blw) (hb.mono (by first | omega | (simp; done) | (simp; omega)))
    have k1_0 : Blk w1 (w.heap.size) 70 #[.int .i64 a, .int .i64 b, .int .i64 c, .int .i64 d] := Blk.below (by exact bkw) hb (by first | omega | (simp; done) | (simp; omega))
    have c1_0 := k1_0.cell
    have f1_0 := k1_0.frozen
    have l1_0 := k1_0.lt
    have l1 := hB1.size
    clear hb
    go_wp2_with fail
    go_ret
    exact ⟨rfl, hB1⟩
def total (l : List (List Geo.Pt)) : Nat := (l.map List.length).sum
theorem total_succ (l : List (List Geo.Pt)) (k : Nat) (h : k < l.length) : total (l.take (k + 1)) = total (l.take k) + (l[k]).length := by
  rw [List.take_succ_eq_append_getElem h]
  unfold total
  simp only [List.map_append, List.sum_append, List.map_cons, List.map_nil, List.sum_cons, List.sum_nil, Nat.add_zero]
theorem total_take (l : List (List Geo.Pt)) (k : Nat) : total (l.take k) ≤ total l := by
  have e : l = l.take k ++ l.drop k := (List.take_append_drop k l).symm
  conv => rhs; rw [e]
  unfold total
  rw [List.map_append, List.sum_append]
  omega
def ShOk (s : Geo.Sh) : Prop := match s with
  | .disc x y r => (-536870912 ≤ x ∧ x ≤ 536870912) ∧ (-536870912 ≤ y ∧ y ≤ 536870912) ∧ 1 ≤ r ∧ r ≤ 536870912
  | .line x y c d r => (-536870912 ≤ x ∧ x ≤ 536870912) ∧ (-536870912 ≤ y ∧ y ≤ 536870912) ∧ (-536870912 ≤ c ∧ c ≤ 536870912) ∧ (-536870912 ≤ d ∧ d ≤ 536870912) ∧ 1 ≤ r ∧ r ≤ 536870912
  | .poly l => FarOk l ∧ total l ≤ 1000 ∧ l.length ≤ 100000
theorem total_mem {l : List (List Geo.Pt)} {c : List Geo.Pt} (h : c ∈ l) : c.length ≤ total l := by
  induction l with
  | nil => simp at h
  | cons a l ih =>
    unfold total at ih ⊢
    simp only [List.map_cons, List.sum_cons]
    rcases List.mem_cons.1 h with rfl | h
    · omega
    · have := ih h; omega
theorem contours_c (S : List Nat) (v : Value) (l : List (List Geo.Pt)) (w : World) (hP : PolyAt S w v l) (hF : FarOk l) (hl : l.length ≤ 100000) (ht : total l ≤ 1000) :
    Calls Tryz.prog 245 #[v] w fun e w' => e = .returned (.bool true) ∧ Below w.heap.size w w' := by
  have n1 := fun x y w x0 x1 y0 y1 => near_c x y w x0 x1 y0 y1
  have C1 := Lib.hid n1
  have HT := Lib.hid ht
  clear n1 ht
  obtain ⟨p, cap, rfl, hp⟩ := hP
  obtain ⟨n, en⟩ : ∃ n, l.length = n := ⟨_, rfl⟩
  have PA : Hid (PolyAt S w (.slice p n cap) l) := Lib.hid ⟨p, cap, by rw [en], hp⟩
  have HF := Lib.hid hF
  have HL := Lib.hid en
  rw [en] at hl ⊢
  clear hp hF en
  go_enter Tryz.func245, Tryz.ntmps245
  go_wp2_with fail
  go_loopw [3, 10] (fun z i wr => ∃ k : Nat, i = .int .i64 (k : Int) ∧ z = .int .i64 (1000 - ((total (l.take k) : Nat) : Int)) ∧ k ≤ n ∧ Below w.heap.size w wr) (fun z i wr => n - (intOf i).toNat)
  case atStart => exact ⟨0, rfl, by simp [total], Nat.zero_le _, by exact blw⟩
  case round =>
  obtain ⟨k, rfl, rfl, hk, hB⟩ := hrel
  obtain ⟨t, et⟩ : ∃ t, total (l.take k) = t := ⟨_, rfl⟩
  rw [et]
  by_cases hlt : k < n
  · have hkl : k < l.length := by rw [HL.out]; exact hlt
    obtain ⟨p1, cap1, e1, h1⟩ := PA.out.below hB (Nat.le_refl _)
    obtain ⟨g1, rfl, _, lg1, h1⟩ := h1 (by intro e; rw [e] at hkl; simp at hkl)
    injection e1 with e1 e1n e1'
    subst e1 e1'
    clear e1n
    obtain ⟨u, hu, p2, cap2, rfl, h2⟩ := h1 k hkl
    obtain ⟨m, em⟩ : ∃ m, (l[k]).length = m := ⟨_, rfl⟩
    have h3 := total_succ l k hkl
    have h4 := total_take l (k + 1)
    have h5 := HT.out
    rw [em, et] at h3
    have tm : t + m ≤ 1000 := by omega
    have et2 : ((total (l.take (k + 1)) : Nat) : Int) = (t : Int) + (m : Int) := by rw [h3]; simp
    rw [em] at hu
    have PT : Hid (PtsAt S wr (.slice p2 m cap2) l[k]) := Lib.hid ⟨p2, cap2, by rw [em], h2⟩
    have EM := Lib.hid em
    have ET := Lib.hid et2
    have HB := Lib.hid hB
    have hw := hB.size
    have d1 : decide ((m : Int) > 1000 - (t : Int)) = false := by simp; omega
    obtain ⟨WR, eWR⟩ : ∃ W, wr = W := ⟨_, rfl⟩
    rw [eWR] at PT HB hw hu
    rw [eWR]
    clear eWR h1 h2 h3 h4 h5 em et et2 hB
    go_wp2_with fail
    go_loopw [24] (fun j wx => ∃ q : Nat, j = .int .i64 (q : Int) ∧ q ≤ m ∧ Below w.heap.size w wx ∧ Below WR.heap.size WR wx) (fun j wx => m - (intOf j).toNat)
    case atStart => exact ⟨0, rfl, Nat.zero_le _, HB.out, Below.refl _ _⟩
    case round =>
    obtain ⟨q, rfl, hq, hB, hB2⟩ := hrel
    by_cases hlq : q < m
    · have hql : q < (l[k]).length := by rw [EM.out]; exact hlq
      obtain ⟨p3, cap3, e3, h3⟩ := PT.out.below hB2 (Nat.le_refl _)
      obtain ⟨g2, rfl, _, lg2, h3⟩ := h3 (by intro e; rw [e] at hql; simp at hql)
      injection e3 with e3 e3n e3'
      subst e3 e3'
      clear e3n
      obtain ⟨x0, x1⟩ := h3 q hql
      obtain ⟨⟨b1, b2⟩, b3, b4⟩ := HF.out.at hkl hql
      have hm1 := fun w => C1.out _ _ w b1 b2 b3 b4
      obtain ⟨P, eP⟩ : ∃ P, (l[k])[q] = P := ⟨_, rfl⟩
      rw [eP] at x0 x1 hm1
      obtain ⟨P1, P2⟩ := P
      simp only [] at x0 x1 hm1
      have HM1 := Lib.hid hm1
      have HB := Lib.hid hB
      have HB2 := Lib.hid hB2
      have hwx := hB.size
      have hw2 := hB2.size
      clear h3 b1 b2 b3 b4 hm1 eP hB hB2
      go_wp2_with fail
      refine (HM1.out _).mono ?_
      rintro e w1 ⟨rfl, hb⟩
      have hB3 : Below w.heap.size w w1 := (HB.out.alloc hwx _).trans (hb.mono (by simp; omega))
      have hB4 : Below WR.heap.size WR w1 := (HB2.out.alloc hw2 _).trans (hb.mono (by simp; omega))
      have HB3 := Lib.hid hB3
      have HB4 := Lib.hid hB4
      clear hb hB3 hB4 x0 x1
      go_wp2_with fail
      go_roundw
      case rel =>
        have hr2 : ∃ q' : Nat, Value.int .i64 ((q : Int) + 1) = .int .i64 (q' : Int) ∧ q' ≤ m ∧ Below w.heap.size w w1 ∧ Below WR.heap.size WR w1 := ⟨q + 1, by go_num, by omega, HB3.out, HB4.out⟩
        first | exact hr2 | ((repeat apply Exists.intro); exact ⟨hr2, rfl⟩)
      case measure => simp [intOf]; omega
    · have e : q = m := by omega
      subst e
      have HB := Lib.hid hB
      clear hB hB2 EM PT
      go_wp2_with fail
      go_roundw
      case rel =>
        have hr2 : ∃ k' : Nat, Value.int .i64 ((k : Int) + 1) = .int .i64 (k' : Int) ∧ Value.int .i64 (1000 - (t : Int) - (q : Int)) = .int .i64 (1000 - ((total (l.take k') : Nat) : Int)) ∧ k' ≤ n ∧ Below w.heap.size w wr := ⟨k + 1, by go_num, by rw [ET.out]; congr 1; omega, by omega, HB.out⟩
        first | exact hr2 | ((repeat apply Exists.intro); exact ⟨hr2, rfl⟩)
      case measure => simp [intOf]; omega
  · have e : k = n := by omega
    subst e
    have HB := Lib.hid hB
    clear hB et
    go_wp2_with fail
    go_ret
    exact ⟨rfl, HB.out⟩
theorem bare_line (x y u v r : Int) (w : World) :
    Calls Tryz.prog 242 #[.agg #[.int .i64 3, .int .i64 x, .int .i64 y, .int .i64 u, .int .i64 v, .int .i64 0, .int .i64 0, .int .i64 r, .slice none 0 0, .slice none 0 0]] w fun e w' => e = .returned (.bool true) ∧ Below w.heap.size w w' := by
  go_enter Tryz.func242, Tryz.ntmps242
  go_wp2
  go_ret
  exact ⟨rfl, by go_grown⟩
theorem bare_poly (p : Option Addr) (n cap : Nat) (w : World) :
    Calls Tryz.prog 242 #[.agg #[.int .i64 2, .int .i64 0, .int .i64 0, .int .i64 0, .int .i64 0, .int .i64 0, .int .i64 0, .int .i64 0, .slice p n cap, .slice none 0 0]] w fun e w' => e = .returned (.bool true) ∧ Below w.heap.size w w' := by
  go_enter Tryz.func242, Tryz.ntmps242
  go_wp2
  go_ret
  exact ⟨rfl, by go_grown⟩
theorem valid_line (x y u v r : Int) (q B : Nat) (w : World) (x_0 : -536870912 ≤ x) (x_1 : x ≤ 536870912) (y_0 : -536870912 ≤ y) (y_1 : y ≤ 536870912) (u_0 : -536870912 ≤ u) (u_1 : u ≤ 536870912) (v_0 : -536870912 ≤ v) (v_1 : v ≤ 536870912) (r_0 : 1 ≤ r) (r_1 : r ≤ 536870912) (hc : w.cell? ⟨q, 0, none⟩ = some (.int .i64 1000)) (hf : w.frozen? ⟨q, 0, none⟩ = false) (hB : B ≤ w.heap.size) (hp : B ≤ q) :
    Calls Tryz.prog 210 #[.agg #[.int .i64 3, .int .i64 x, .int .i64 y, .int .i64 u, .int .i64 v, .int .i64 0, .int .i64 0, .int .i64 r, .slice none 0 0, .slice none 0 0], .int .i64 0, .pointer (some ⟨q, 0, none⟩)] w fun e w' => e = .returned (.bool true) ∧ Below B w w' := by
  have hpl := blk_of_cell hc
  have n1 := fun w => near_c x y w x_0 x_1 y_0 y_1
  have n2 := fun w => near_c u v w u_0 u_1 v_0 v_1
  have n3 := fun w => width_c r w r_0 r_1
  have C1 := Lib.hid n1
  have C2 := Lib.hid n2
  have C3 := Lib.hid n3
  clear n1 n2 n3 x_0 x_1 y_0 y_1 u_0 u_1 v_0 v_1
  go_enter Tryz.func210, Tryz.ntmps210
  go_wp2_with fail
  refine (bare_line _ _ _ _ _ _).mono ?_
  rintro e w1 ⟨rfl, hb⟩
  have hB1 : Below B w w1 := Below.trans (by exact blw) (hb.mono (by first | omega | (simp; done) | (simp; omega)))
  have k1_0 : Blk w1 (w.heap.size) 62 #[.int .i64 3, .int .i64 x, .int .i64 y, .int .i64 u, .int .i64 v, .int .i64 0, .int .i64 0, .int .i64 r, .slice none 0 0, .slice none 0 0] := Blk.below (by exact bkw) hb (by first | omega | (simp; done) | (simp; omega))
  have c1_0 := k1_0.cell
  have f1_0 := k1_0.frozen
  have l1_0 := k1_0.lt
  have l1 := hB1.size
  clear hb
  clear hc hf
  go_wp2_with fail
  refine (C1.out _).mono ?_
  rintro e w2 ⟨rfl, hb⟩
  have hB2 : Below B w w2 := Below.trans (by exact blw) (hb.mono (by first | omega | (simp; done) | (simp; omega)))
  have k2_0 : Blk w2 (w.heap.size) 62 #[.int .i64 3, .int .i64 x, .int .i64 y, .int .i64 u, .int .i64 v, .int .i64 0, .int .i64 0, .int .i64 r, .slice none 0 0, .slice none 0 0] := Blk.below (by exact bkw) hb (by first | omega | (simp; done) | (simp; omega))
  have c2_0 := k2_0.cell
  have f2_0 := k2_0.frozen
  have l2_0 := k2_0.lt
  have l2 := hB2.size
  clear hb k1_0 c1_0 f1_0 l1_0
  go_wp2_with fail
  refine (C2.out _).mono ?_
  rintro e w3 ⟨rfl, hb⟩
  have hB3 : Below B w w3 := Below.trans (by exact blw) (hb.mono (by first | omega | (simp; done) | (simp; omega)))
  have k3_0 : Blk w3 (w.heap.size) 62 #[.int .i64 3, .int .i64 x, .int .i64 y, .int .i64 u, .int .i64 v, .int .i64 0, .int .i64 0, .int .i64 r, .slice none 0 0, .slice none 0 0] := Blk.below (by exact bkw) hb (by first | omega | (simp; done) | (simp; omega))
  have c3_0 := k3_0.cell
  have f3_0 := k3_0.frozen
  have l3_0 := k3_0.lt
  have l3 := hB3.size
  clear hb k2_0 c2_0 f2_0 l2_0
  go_wp2_with fail
  refine (C3.out _).mono ?_
  rintro e w4 ⟨rfl, hb⟩
  have hB4 : Below B w w4 := Below.trans (by exact blw) (hb.mono (by first | omega | (simp; done) | (simp; omega)))
  have l4 := hB4.size
  clear hb
  go_wp2_with fail
  go_ret
  exact ⟨rfl, hB4⟩
theorem valid_poly (S : List Nat) (p : Option Addr) (n cap : Nat) (l : List (List Geo.Pt)) (q B : Nat) (w : World) (hP : PolyAt S w (.slice p n cap) l) (hF : FarOk l) (hl : l.length ≤ 100000) (ht : total l ≤ 1000) (hqS : q ∈ S) (hc : w.cell? ⟨q, 0, none⟩ = some (.int .i64 1000)) (hf : w.frozen? ⟨q, 0, none⟩ = false) (hB : B ≤ w.heap.size) (hp : B ≤ q) :
    Calls Tryz.prog 210 #[.agg #[.int .i64 2, .int .i64 0, .int .i64 0, .int .i64 0, .int .i64 0, .int .i64 0, .int .i64 0, .int .i64 0, .slice p n cap, .slice none 0 0], .int .i64 0, .pointer (some ⟨q, 0, none⟩)] w fun e w' => e = .returned (.bool true) ∧ Below B w w' := by
  have hpl := blk_of_cell hc
  have n1 := fun w h => contours_c S (.slice p n cap) l w h hF hl ht
  have C1 := Lib.hid n1
  have HP := Lib.hid hP
  clear n1 hP hF hl ht
  go_enter Tryz.func210, Tryz.ntmps210
  go_wp2_with fail
  refine (bare_poly _ _ _ _).mono ?_
  rintro e w1 ⟨rfl, hb⟩
  have hB1 : Below B w w1 := Below.trans (by exact blw) (hb.mono (by first | omega | (simp; done) | (simp; omega)))
  have k1_0 : Blk w1 (w.heap.size) 62 #[.int .i64 2, .int .i64 0, .int .i64 0, .int .i64 0, .int .i64 0, .int .i64 0, .int .i64 0, .int .i64 0, .slice p n cap, .slice none 0 0] := Blk.below (by exact bkw) hb (by first | omega | (simp; done) | (simp; omega))
  have c1_0 := k1_0.cell
  have f1_0 := k1_0.frozen
  have l1_0 := k1_0.lt
  have l1 := hB1.size
  have s1 : PolyAt S w1 (.slice p n cap) l := by
    first
    | exact PolyAt.below ((HP.out.alloc _).only ((Only.refl _ _).setCell (.inl hqS) _)) hb (by first | (simp; done) | (simp; omega))
    | exact PolyAt.below ((HP.out.only ((Only.refl _ _).setCell (.inl hqS) _)).alloc _) hb (by first | (simp; done) | (simp; omega))
  have S1 := Lib.hid s1
  clear s1
  clear hb
  clear hc hf
  go_wp2_with fail
  refine (C1.out _ S1.out).mono ?_
  rintro e w2 ⟨rfl, hb⟩
  have hB2 : Below B w w2 := Below.trans (by exact blw) (hb.mono (by first | omega | (simp; done) | (simp; omega)))
  have l2 := hB2.size
  clear hb
  go_wp2_with fail
  go_ret
  exact ⟨rfl, hB2⟩
theorem ok_line (x y u v r : Int) (w : World) (x_0 : -536870912 ≤ x) (x_1 : x ≤ 536870912) (y_0 : -536870912 ≤ y) (y_1 : y ≤ 536870912) (u_0 : -536870912 ≤ u) (u_1 : u ≤ 536870912) (v_0 : -536870912 ≤ v) (v_1 : v ≤ 536870912) (r_0 : 1 ≤ r) (r_1 : r ≤ 536870912) :
    Calls Tryz.prog 171 #[.agg #[.int .i64 3, .int .i64 x, .int .i64 y, .int .i64 u, .int .i64 v, .int .i64 0, .int .i64 0, .int .i64 r, .slice none 0 0, .slice none 0 0]] w fun e w' => e = .returned (.bool true) ∧ Below w.heap.size w w' := by
  go_enter Tryz.func171, Tryz.ntmps171
  go_wp2_with fail
  refine (valid_line _ _ _ _ _ _ w.heap.size _ x_0 x_1 y_0 y_1 u_0 u_1 v_0 v_1 r_0 r_1 (by simp) (by simp) (by simp; omega) (by omega)).mono ?_
  rintro e w1 ⟨rfl, hb⟩
  have hB : Below w.heap.size w w1 := Below.trans (by exact blw) hb
  go_wp2_with fail
  go_ret
  exact ⟨rfl, hB⟩
theorem ok_poly (S : List Nat) (p : Option Addr) (n cap : Nat) (l : List (List Geo.Pt)) (w : World) (hP : PolyAt S w (.slice p n cap) l) (hF : FarOk l) (hl : l.length ≤ 100000) (ht : total l ≤ 1000) :
    Calls Tryz.prog 171 #[.agg #[.int .i64 2, .int .i64 0, .int .i64 0, .int .i64 0, .int .i64 0, .int .i64 0, .int .i64 0, .int .i64 0, .slice p n cap, .slice none 0 0]] w fun e w' => e = .returned (.bool true) ∧ Below w.heap.size w w' := by
  have h2 : ∀ q, w.heap.size ≤ q → PolyAt (q :: S) w (.slice p n cap) l := fun q hq => hP.to (Nat.le_refl _) (fun _ _ _ => rfl) (fun b h1 h2 hm => by
    rcases List.mem_cons.1 hm with rfl | hm
    · omega
    · exact h1 hm)
  have HP := Lib.hid h2
  have HF := Lib.hid hF
  clear hP h2 hF
  go_enter Tryz.func171, Tryz.ntmps171
  go_wp2_with fail
  refine (valid_poly ((w.heap.size + 1) :: S) _ _ _ l _ w.heap.size _ (((HP.out _ (by omega)).alloc _).alloc _) HF.out hl ht (by simp) (by simp) (by simp) (by simp; omega) (by omega)).mono ?_
  rintro e w1 ⟨rfl, hb⟩
  have hB : Below w.heap.size w w1 := Below.trans (by exact blw) hb
  go_wp2_with fail
  go_ret
  exact ⟨rfl, hB⟩
theorem okSh (S : List Nat) (s : Geo.Sh) (L : Value) (w : World) (hs : ShOk s) (hL : ShAt S w s L) :
    Calls Tryz.prog 171 #[.agg (shA s L)] w fun e w' => e = .returned (.bool true) ∧ Below w.heap.size w w' := by
  cases s with
  | disc x y r => exact ok_disc x y r w hs.1.1 hs.1.2 hs.2.1.1 hs.2.1.2 hs.2.2.1 hs.2.2.2
  | line x y c d r => exact ok_line x y c d r w hs.1.1 hs.1.2 hs.2.1.1 hs.2.1.2 hs.2.2.1.1 hs.2.2.1.2 hs.2.2.2.1.1 hs.2.2.2.1.2 hs.2.2.2.2.1 hs.2.2.2.2.2
  | poly l =>
    have h : PolyAt S w L l := hL
    obtain ⟨p, cap, rfl, h2⟩ := h
    exact ok_poly S p l.length cap l w ⟨p, cap, rfl, h2⟩ hs.1 hs.2.2 hs.2.1
end Go.Proofs.YtfajckkbinbpiaaGreatDoor
