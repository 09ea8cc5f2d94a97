/- Walk: whether a segment meets a box, as the reference says. What of the input can be read; walks: whether a shape is small. -/
import Derived.Deep.DeepCutAuto
import Derived.LoopTactic
import Derived.Test.YtfajckkbinbpiaaGreatDoorN01
import Derived.Test.YtfajckkbinbpiaaGreatDoorN03
namespace Go.Proofs.YtfajckkbinbpiaaGreatDoor
set_option maxRecDepth 100000
set_option maxHeartbeats 32000000
set_option linter.unusedVariables false
set_option linter.unusedSimpArgs false
open Go.RowKit Go.Sort
def crn (a b c d : Int) (k : Nat) : Int × Int := if k = 0 then (a, b) else if k = 1 then (c, b) else if k = 2 then (a, d) else (c, d)
def crnK (a b c d p q u v : Int) (k : Nat) : Int := Geo.cross p q u v (crn a b c d k).1 (crn a b c d k).2
def cntI (f : Nat → Bool) : Nat → Nat
  | 0 => 0
  | k + 1 => cntI f k + (if f k then 1 else 0)
theorem cntI_le (f : Nat → Bool) : ∀ k, cntI f k ≤ k
  | 0 => Nat.le_refl _
  | k + 1 => by have := cntI_le f k; simp only [cntI]; split <;> omega
theorem crn_at (a b c d : Int) (k : Nat) (hk : k < 4) : (#[.int .i64 a, .int .i64 b, .int .i64 c, .int .i64 b, .int .i64 a, .int .i64 d, .int .i64 c, .int .i64 d] : Array Value)[k * 2]? = some (.int .i64 (crn a b c d k).1) ∧ (#[.int .i64 a, .int .i64 b, .int .i64 c, .int .i64 b, .int .i64 a, .int .i64 d, .int .i64 c, .int .i64 d] : Array Value)[k * 2 + 1]? = some (.int .i64 (crn a b c d k).2) := by
  rcases (show k = 0 ∨ k = 1 ∨ k = 2 ∨ k = 3 by omega) with rfl | rfl | rfl | rfl <;> exact ⟨rfl, rfl⟩
theorem crn_rng {a b c d : Int} (k : Nat) (ha : -2000 ≤ a ∧ a ≤ 2000) (hb : -2000 ≤ b ∧ b ≤ 2000) (hc : -2000 ≤ c ∧ c ≤ 2000) (hd : -2000 ≤ d ∧ d ≤ 2000) : (-2000 ≤ (crn a b c d k).1 ∧ (crn a b c d k).1 ≤ 2000) ∧ (-2000 ≤ (crn a b c d k).2 ∧ (crn a b c d k).2 ≤ 2000) := by
  unfold crn
  split
  · exact ⟨ha, hb⟩
  · split
    · exact ⟨hc, hb⟩
    · split
      · exact ⟨ha, hd⟩
      · exact ⟨hc, hd⟩
theorem cnt_four {f : Nat → Bool} : cntI f 4 < 4 ↔ ¬ (f 0 = true ∧ f 1 = true ∧ f 2 = true ∧ f 3 = true) := by
  simp only [cntI]
  cases f 0 <;> cases f 1 <;> cases f 2 <;> cases f 3 <;> simp
theorem meets_apart {a b c d p q u v x y z t : Int} (hx : x = min p u) (hy : y = min q v) (hz : z = max p u) (ht : t = max q v) (h : Geo.apart ⟨a, b, c, d⟩ ⟨x, y, z, t⟩ = true) : Geo.meets ⟨a, b, c, d⟩ ((p, q), (u, v)) = false := by
  have h := Geo.apart_or h
  simp only [] at h
  unfold Geo.meets
  have : Geo.NoMeet a b c d p q u v := by unfold Geo.NoMeet; omega
  simp [this]
theorem meets_cnt {a b c d p q u v x y z t : Int} (hx : x = min p u) (hy : y = min q v) (hz : z = max p u) (ht : t = max q v) (h : Geo.apart ⟨a, b, c, d⟩ ⟨x, y, z, t⟩ = false) :
    Geo.meets ⟨a, b, c, d⟩ ((p, q), (u, v)) = (decide (cntI (fun k => decide (0 < crnK a b c d p q u v k)) 4 < 4) && decide (cntI (fun k => decide (crnK a b c d p q u v k < 0)) 4 < 4)) := by
  unfold Geo.apart at h
  simp at h
  have e : ∀ k, crnK a b c d p q u v k = Geo.cross p q u v (crn a b c d k).1 (crn a b c d k).2 := fun _ => rfl
  rw [Bool.eq_iff_iff]
  unfold Geo.meets
  simp only [Bool.not_eq_true', decide_eq_false_iff_not, Bool.and_eq_true, decide_eq_true_eq, cnt_four]
  have e0 : crnK a b c d p q u v 0 = Geo.cross p q u v a b := rfl
  have e1 : crnK a b c d p q u v 1 = Geo.cross p q u v c b := rfl
  have e2 : crnK a b c d p q u v 2 = Geo.cross p q u v a d := rfl
  have e3 : crnK a b c d p q u v 3 = Geo.cross p q u v c d := rfl
  rw [e0, e1, e2, e3]
  unfold Geo.NoMeet
  omega
theorem rmeets_c (a b c d p q u v : Int) (w : World) (a_0 : -2000 ≤ a) (a_1 : a ≤ 2000) (b_0 : -2000 ≤ b) (b_1 : b ≤ 2000) (c_0 : -2000 ≤ c) (c_1 : c ≤ 2000) (d_0 : -2000 ≤ d) (d_1 : d ≤ 2000) (p_0 : -2000 ≤ p) (p_1 : p ≤ 2000) (q_0 : -2000 ≤ q) (q_1 : q ≤ 2000) (u_0 : -2000 ≤ u) (u_1 : u ≤ 2000) (v_0 : -2000 ≤ v) (v_1 : v ≤ 2000) : Calls Tryz.prog 123 #[.agg #[.int .i64 a, .int .i64 b, .int .i64 c, .int .i64 d], .agg #[.int .i64 p, .int .i64 q], .agg #[.int .i64 u, .int .i64 v]] w fun e w' => e = .returned (.bool (Geo.meets ⟨a, b, c, d⟩ ((p, q), (u, v)))) ∧ Below w.heap.size w w' := by
  have n3 := fun x y w hx0 hx1 hy0 hy1 => rcross_c p q u v x y w p_0 p_1 q_0 q_1 u_0 u_1 v_0 v_1 hx0 hx1 hy0 hy1
  have C3 := Lib.hid n3
  have HR := Lib.hid (fun k => crn_rng k ⟨a_0, a_1⟩ ⟨b_0, b_1⟩ ⟨c_0, c_1⟩ ⟨d_0, d_1⟩)
  have HA := Lib.hid (crn_at a b c d)
  clear n3
  obtain ⟨A, eA⟩ : ∃ A, Geo.apart ⟨a, b, c, d⟩ ⟨min p u, min q v, max p u, max q v⟩ = A := ⟨_, rfl⟩
  have hap : ∀ x y z t, x = min p u → y = min q v → z = max p u → t = max q v → Geo.apart ⟨a, b, c, d⟩ ⟨x, y, z, t⟩ = A := by
    intro x y z t h1 h2 h3 h4
    subst h1 h2 h3 h4
    exact eA
  have HAP := Lib.hid hap
  clear hap
  go_enter Tryz.func123, Tryz.ntmps123
  go_upto_region 1 with fail
  go_cut [34] (fun vt wx => vt = .bool A ∧ Blk wx w.heap.size 70 #[.int .i64 a, .int .i64 b, .int .i64 c, .int .i64 d] ∧ Blk wx (w.heap.size + 1) 58 #[.int .i64 p, .int .i64 q] ∧ Blk wx (w.heap.size + 1 + 1) 58 #[.int .i64 u, .int .i64 v] ∧ Below w.heap.size w wx)
  case first =>
    rcases Int.lt_trichotomy u p with h1 | h1 | h1 <;> rcases Int.lt_trichotomy v q with h2 | h2 | h2
    all_goals
      (try subst h1)
      (try subst h2)
      go_wp2_with fail
      refine (rapart_c _ _ _ _ _ _ _ _ _).mono ?_
      rintro e z1 ⟨rfl, hb⟩
      go_wp2_with fail
      go_meet
      exact ⟨congrArg Value.bool (HAP.out _ _ _ _ (by omega) (by omega) (by omega) (by omega)), Blk.below (by exact bkw) hb (by first | omega | (simp; done) | (simp; omega)), Blk.below (by exact bkw) hb (by first | omega | (simp; done) | (simp; omega)), Blk.below (by exact bkw) hb (by first | omega | (simp; done) | (simp; omega)), Below.trans (by exact blw) (hb.mono (by first | omega | (simp; done) | (simp; omega)))⟩
  case rest =>
    obtain ⟨rfl, kB, kP, kU, hB⟩ := hcut
    have HB := Lib.hid hB
    have KP := Lib.hid kP
    have KU := Lib.hid kU
    have s1 := hB.size
    have cB := kB.cell
    have lB := kB.lt
    clear kB kP kU hB
    cases A
    · have em := meets_cnt (a := a) (b := b) (c := c) (d := d) rfl rfl rfl rfl eA
      obtain ⟨NL, eNL⟩ : ∃ N, cntI (fun k => decide (0 < crnK a b c d p q u v k)) 4 = N := ⟨_, rfl⟩
      obtain ⟨NR, eNR⟩ : ∃ N, cntI (fun k => decide (crnK a b c d p q u v k < 0)) 4 = N := ⟨_, rfl⟩
      rw [eNL, eNR] at em
      have hNL : NL ≤ 4 := by rw [← eNL]; exact cntI_le _ _
      have hNR : NR ≤ 4 := by rw [← eNR]; exact cntI_le _ _
      have EM := Lib.hid em
      have ENL := Lib.hid eNL
      have ENR := Lib.hid eNR
      clear em eNL eNR eA
      go_wp2_with fail
      refine (rcorners_c _ _ _ _ _).mono ?_
      rintro e z2 ⟨rfl, hb⟩
      obtain ⟨g, eg⟩ : ∃ g, z2.alloc (.cells #[.int .i64 a, .int .i64 b, .int .i64 c, .int .i64 b, .int .i64 a, .int .i64 d, .int .i64 c, .int .i64 d] 236) = g := ⟨_, rfl⟩
      have hB2 : Below w.heap.size w z2 := HB.out.trans (hb.mono s1)
      have hBg : Below w.heap.size w g := by rw [← eg]; exact hB2.alloc hB2.size _
      have hB3 : Below wc.heap.size wc g := by rw [← eg]; exact hb.alloc hb.size _
      have jP : Blk g (w.heap.size + 1) 58 #[.int .i64 p, .int .i64 q] := KP.out.below hB3 KP.out.lt
      have jU : Blk g (w.heap.size + 1 + 1) 58 #[.int .i64 u, .int .i64 v] := KU.out.below hB3 KU.out.lt
      have kC : Blk g z2.heap.size 236 #[.int .i64 a, .int .i64 b, .int .i64 c, .int .i64 b, .int .i64 a, .int .i64 d, .int .i64 c, .int .i64 d] := by rw [← eg]; exact Blk.new _ _ _
      have EG := Lib.hid eg
      have HBG := Lib.hid hBg
      have JP := Lib.hid jP
      have JU := Lib.hid jU
      have KC := Lib.hid kC
      have sg := hBg.size
      clear hb hB2 hBg hB3 jP jU kC eg cB lB KP KU
      go_wp2_with fail
      rw [EG.out]
      go_loopw [8, 9, 10] (fun lv rv iv wr => ∃ k : Nat, iv = .int .i64 (k : Int) ∧ k ≤ 4 ∧ (∃ m : Nat, lv = .int .i64 (m : Int) ∧ m ≤ k ∧ m = cntI (fun k => decide (0 < crnK a b c d p q u v k)) k) ∧ (∃ m : Nat, rv = .int .i64 (m : Int) ∧ m ≤ k ∧ m = cntI (fun k => decide (crnK a b c d p q u v k < 0)) k) ∧ Below g.heap.size g wr) (fun lv rv iv wr => 4 - (intOf iv).toNat)
      case atStart => exact ⟨0, rfl, by omega, ⟨0, rfl, by omega, rfl⟩, ⟨0, rfl, by omega, rfl⟩, Below.refl _ _⟩
      case round =>
      obtain ⟨k, rfl, hk, ⟨m, rfl, hm, em⟩, ⟨n, rfl, hn, en⟩, hBw⟩ := hrel
      by_cases hlt : k < 4
      · obtain ⟨x1, x2⟩ := HA.out k hlt
        obtain ⟨⟨g0, g1⟩, g2, g3⟩ := HR.out k
        have hcr := fun w => C3.out _ _ w g0 g1 g2 g3
        have eK : Geo.cross p q u v (crn a b c d k).1 (crn a b c d k).2 = crnK a b c d p q u v k := rfl
        rw [eK] at hcr
        obtain ⟨K, eKK⟩ : ∃ K, crnK a b c d p q u v k = K := ⟨_, rfl⟩
        have st1 : cntI (fun k => decide (0 < crnK a b c d p q u v k)) (k + 1) = m + (if 0 < K then 1 else 0) := by
          rw [em, ← eKK]; simp only [cntI, decide_eq_true_eq]
        have st2 : cntI (fun k => decide (crnK a b c d p q u v k < 0)) (k + 1) = n + (if K < 0 then 1 else 0) := by
          rw [en, ← eKK]; simp only [cntI, decide_eq_true_eq]
        rw [eKK] at hcr
        obtain ⟨cx, ecx⟩ : ∃ x, (crn a b c d k).1 = x := ⟨_, rfl⟩
        obtain ⟨cy, ecy⟩ : ∃ x, (crn a b c d k).2 = x := ⟨_, rfl⟩
        rw [ecx, ecy] at hcr
        rw [ecx] at x1
        rw [ecy] at x2
        have jP := JP.out.below hBw JP.out.lt
        have jU := JU.out.below hBw JU.out.lt
        have jC := KC.out.below hBw KC.out.lt
        have lP := jP.lt
        have lU := jU.lt
        have lC := jC.lt
        have y0 := cell_regrown (show wr.cell? ⟨w.heap.size + 1, 0, none⟩ = some (.int .i64 p) from jP.cell 0)
        have y1 := cell_regrown (show wr.cell? ⟨w.heap.size + 1, 1, none⟩ = some (.int .i64 q) from jP.cell 1)
        have y2 := cell_regrown (show wr.cell? ⟨w.heap.size + 1 + 1, 0, none⟩ = some (.int .i64 u) from jU.cell 0)
        have y3 := cell_regrown (show wr.cell? ⟨w.heap.size + 1 + 1, 1, none⟩ = some (.int .i64 v) from jU.cell 1)
        have y4 := cell_regrown (show wr.cell? ⟨z2.heap.size, k * 2, none⟩ = some (.int .i64 cx) from (jC.cell _).trans x1)
        have y5 := cell_regrown (show wr.cell? ⟨z2.heap.size, k * 2 + 1, none⟩ = some (.int .i64 cy) from (jC.cell _).trans x2)
        have HC := Lib.hid hcr
        have m1 : ∀ d' os, Calls Tryz.prog 129 #[.agg #[.int .i64 p, .int .i64 q], .agg #[.int .i64 u, .int .i64 v], .agg #[.int .i64 cx, .int .i64 cy]] (Go.Sort.grow (redrawn wr d') os) fun e w'' => e = .returned (.int .i64 K) ∧ ∃ p : Regrown, w'' = Go.Sort.grow (redrawn wr p.d) p.os := fun d' os => Calls.regrown_of (HC.out _)
        have M1 := Lib.hid m1
        have ST := Lib.hid (And.intro st1 st2)
        have HBW := Lib.hid hBw
        have sw := hBw.size
        have k4 : (k : Int) < 4 := by omega
        clear x1 x2 g0 g1 g2 g3 hcr eK eKK st1 st2 ecx ecy jP jU jC m1 hBw em en
        go_wp2_with fail
        refine wp_region_quiet_below (by kernel_rfl) (by kernel_rfl) ?_
        repeat (any_goals (first | go_big_quiet_step (first | (with_reducible exact M1.out _ _)) | quiet_step (first | (with_reducible exact M1.out _ _))))
        refine wpQuiet_nil ?_
        intro w1 hw'
        have hb : Below wr.heap.size wr w1 := by obtain ⟨p, rfl⟩ := hw'; exact below_regrown _ _ _
        have HB9 := Lib.hid (HBW.out.trans (hb.mono sw))
        clear hw' hb y0 y1 y2 y3 y4 y5
        rcases Int.lt_trichotomy K 0 with hK | hK | hK
        · have t1 : decide (0 < K) = false := by simp; omega
          have t2 : decide (K < 0) = true := by simp; omega
          go_wp2_with fail
          go_roundw
          case rel =>
            have hr2 : ∃ k' : Nat, Value.int .i64 ((k : Int) + 1) = .int .i64 (k' : Int) ∧ k' ≤ 4 ∧ (∃ m' : Nat, Value.int .i64 (m : Int) = .int .i64 (m' : Int) ∧ m' ≤ k' ∧ m' = cntI (fun k => decide (0 < crnK a b c d p q u v k)) k') ∧ (∃ m' : Nat, Value.int .i64 ((n : Int) + 1) = .int .i64 (m' : Int) ∧ m' ≤ k' ∧ m' = cntI (fun k => decide (crnK a b c d p q u v k < 0)) k') ∧ Below g.heap.size g w1 :=
              ⟨k + 1, by go_num, by omega, ⟨m, rfl, by omega, by rw [ST.out.1, if_neg (by omega)]; rfl⟩, ⟨n + 1, by go_num, by omega, by rw [ST.out.2, if_pos hK]⟩, HB9.out⟩
            first | exact hr2 | ((repeat apply Exists.intro); exact ⟨hr2, rfl⟩)
          case measure => simp [intOf]; omega
        · have t1 : decide (0 < K) = false := by simp; omega
          have t2 : decide (K < 0) = false := by simp; omega
          clear hK
          go_wp2_with fail
          go_roundw
          case rel =>
            have hr2 : ∃ k' : Nat, Value.int .i64 ((k : Int) + 1) = .int .i64 (k' : Int) ∧ k' ≤ 4 ∧ (∃ m' : Nat, Value.int .i64 (m : Int) = .int .i64 (m' : Int) ∧ m' ≤ k' ∧ m' = cntI (fun k => decide (0 < crnK a b c d p q u v k)) k') ∧ (∃ m' : Nat, Value.int .i64 (n : Int) = .int .i64 (m' : Int) ∧ m' ≤ k' ∧ m' = cntI (fun k => decide (crnK a b c d p q u v k < 0)) k') ∧ Below g.heap.size g w1 :=
              ⟨k + 1, by go_num, by omega, ⟨m, rfl, by omega, by rw [ST.out.1, if_neg (by simpa using t1)]; rfl⟩, ⟨n, rfl, by omega, by rw [ST.out.2, if_neg (by simpa using t2)]; rfl⟩, HB9.out⟩
            first | exact hr2 | ((repeat apply Exists.intro); exact ⟨hr2, rfl⟩)
          case measure => simp [intOf]; omega
        · have t1 : decide (0 < K) = true := by simp; omega
          have t2 : decide (K < 0) = false := by simp; omega
          go_wp2_with fail
          go_roundw
          case rel =>
            have hr2 : ∃ k' : Nat, Value.int .i64 ((k : Int) + 1) = .int .i64 (k' : Int) ∧ k' ≤ 4 ∧ (∃ m' : Nat, Value.int .i64 ((m : Int) + 1) = .int .i64 (m' : Int) ∧ m' ≤ k' ∧ m' = cntI (fun k => decide (0 < crnK a b c d p q u v k)) k') ∧ (∃ m' : Nat, Value.int .i64 (n : Int) = .int .i64 (m' : Int) ∧ m' ≤ k' ∧ m' = cntI (fun k => decide (crnK a b c d p q u v k < 0)) k') ∧ Below g.heap.size g w1 :=
              ⟨k + 1, by go_num, by omega, ⟨m + 1, by go_num, by omega, by rw [ST.out.1, if_pos hK]⟩, ⟨n, rfl, by omega, by rw [ST.out.2, if_neg (by omega)]; rfl⟩, HB9.out⟩
            first | exact hr2 | ((repeat apply Exists.intro); exact ⟨hr2, rfl⟩)
          case measure => simp [intOf]; omega
      · obtain rfl : k = 4 := by omega
        rw [ENL.out] at em
        rw [ENR.out] at en
        subst m n
        obtain ⟨TL, eTL⟩ : ∃ T, decide (NL < 4) = T := ⟨_, rfl⟩
        obtain ⟨TR, eTR⟩ : ∃ T, decide (NR < 4) = T := ⟨_, rfl⟩
        have eTL2 : decide ((NL : Int) < 4) = TL := by rw [← eTL]; simp; omega
        have eTR2 : decide ((NR : Int) < 4) = TR := by rw [← eTR]; simp; omega
        have hres := EM.out
        rw [eTL, eTR] at hres
        have HRS := Lib.hid hres
        have HBZ := Lib.hid (HBG.out.trans (hBw.mono sg))
        clear eTL eTR hres hBw
        cases TL <;> cases TR
        all_goals
          go_wp2_with fail
          go_ret
          exact ⟨by rw [HRS.out]; rfl, HBZ.out⟩
    · have em := meets_apart (a := a) (b := b) (c := c) (d := d) rfl rfl rfl rfl eA
      have EM := Lib.hid em
      clear em eA
      go_wp2_with fail
      go_ret
      exact ⟨by rw [EM.out]; rfl, HB.out⟩
end Go.Proofs.YtfajckkbinbpiaaGreatDoor
namespace Go.Proofs.YtfajckkbinbpiaaGreatDoor
set_option maxRecDepth 100000
set_option maxHeartbeats 32000000
set_option linter.unusedVariables false
set_option linter.unusedSimpArgs false
open Go.RowKit
def PtsRd (w : World) (v : Value) : Prop :=
  ∃ p n cap, v = .slice p n cap ∧ n ≤ 9223372036854775807 ∧ (0 < n → ∃ b off, p = some ⟨b, off, none⟩ ∧ b < w.heap.size ∧ ∀ k, k < n → ∃ x y : Int, w.cell? ⟨b, off + k * 2, none⟩ = some (.int .i64 x) ∧ w.cell? ⟨b, off + k * 2 + 1, none⟩ = some (.int .i64 y))
def PolyRd (w : World) (v : Value) : Prop :=
  ∃ p n cap, v = .slice p n cap ∧ n ≤ 9223372036854775807 ∧ (0 < n → ∃ b off, p = some ⟨b, off, none⟩ ∧ b < w.heap.size ∧ ∀ k, k < n → ∃ u, w.cell? ⟨b, off + k, none⟩ = some u ∧ PtsRd w u)
def shV (k0 x0 y0 c0 d0 e0 f0 r0 : Int) (L P : Value) : Array Value := #[.int .i64 k0, .int .i64 x0, .int .i64 y0, .int .i64 c0, .int .i64 d0, .int .i64 e0, .int .i64 f0, .int .i64 r0, L, P]
def PartsRd : Nat → World → Value → Prop
  | 0, _, v => ∃ p n cap, v = .slice p n cap ∧ n ≤ 9223372036854775807
  | m + 1, w, v => ∃ p n cap, v = .slice p n cap ∧ n ≤ 9223372036854775807 ∧ (0 < n → ∃ b off, p = some ⟨b, off, none⟩ ∧ b < w.heap.size ∧ ∀ k, k < n → ∃ (dk : Bool) (k0 x0 y0 c0 d0 e0 f0 r0 : Int) (L P : Value),
      w.cell? ⟨b, off + k * 11, none⟩ = some (.bool dk) ∧ (∀ j u, (shV k0 x0 y0 c0 d0 e0 f0 r0 L P)[j]? = some u → w.cell? ⟨b, off + k * 11 + (j + 1), none⟩ = some u) ∧ PolyRd w L ∧ PartsRd m w P)
section
variable {w w' : World} {B : Nat} {v : Value}
theorem PtsRd.below (h : PtsRd w v) (hb : Below B w w') (hB : w.heap.size ≤ B) : PtsRd w' v := by
  obtain ⟨p, n, cap, rfl, hn, h⟩ := h
  refine ⟨p, n, cap, rfl, hn, fun h0 => ?_⟩
  obtain ⟨b, off, rfl, h1, h2⟩ := h h0
  have hs := hb.size
  refine ⟨b, off, rfl, by omega, fun k hk => ?_⟩
  obtain ⟨x, y, h3, h4⟩ := h2 k hk
  exact ⟨x, y, (World.cell?_of_block (hb.block b (by omega))).trans h3, (World.cell?_of_block (hb.block b (by omega))).trans h4⟩
theorem PolyRd.below (h : PolyRd w v) (hb : Below B w w') (hB : w.heap.size ≤ B) : PolyRd w' v := by
  obtain ⟨p, n, cap, rfl, hn, h⟩ := h
  refine ⟨p, n, cap, rfl, hn, fun h0 => ?_⟩
  obtain ⟨b, off, rfl, h1, h2⟩ := h h0
  have hs := hb.size
  refine ⟨b, off, rfl, by omega, fun k hk => ?_⟩
  obtain ⟨u, h3, h4⟩ := h2 k hk
  exact ⟨u, (World.cell?_of_block (hb.block b (by omega))).trans h3, h4.below hb hB⟩
theorem PartsRd.below : ∀ {m : Nat} {v : Value}, PartsRd m w v → Below B w w' → w.heap.size ≤ B → PartsRd m w' v
  | 0, _, h, _, _ => h
  | m + 1, _, h, hb, hB => by
    obtain ⟨p, n, cap, rfl, hn, h⟩ := h
    refine ⟨p, n, cap, rfl, hn, fun h0 => ?_⟩
    obtain ⟨b, off, rfl, h1, h2⟩ := h h0
    have hs := hb.size
    refine ⟨b, off, rfl, by omega, fun k hk => ?_⟩
    obtain ⟨dk, k0, x0, y0, c0, d0, e0, f0, r0, L, P, h3, h4, h5, h6⟩ := h2 k hk
    exact ⟨dk, k0, x0, y0, c0, d0, e0, f0, r0, L, P, (World.cell?_of_block (hb.block b (by omega))).trans h3, fun j u hj => (World.cell?_of_block (hb.block b (by omega))).trans (h4 j u hj), h5.below hb hB, h6.below hb hB⟩
end
theorem PartsRd.len {m : Nat} {w : World} {v : Value} (h : PartsRd m w v) : ∃ p n cap, v = .slice p n cap ∧ n ≤ 9223372036854775807 := by
  cases m with
  | zero => exact h
  | succ m => obtain ⟨p, n, cap, e, hn, _⟩ := h; exact ⟨p, n, cap, e, hn⟩
def SomeBool (w : World) (e : Ending) (w' : World) : Prop := ∃ b, e = .returned (.bool b) ∧ Below w.heap.size w w'
def SmallIs (n : Nat) : Prop := ∀ (k0 x0 y0 c0 d0 e0 f0 r0 : Int) (L P : Value) (w : World), PolyRd w L → PartsRd n w P →
    Calls Tryz.prog 39 #[.agg (shV k0 x0 y0 c0 d0 e0 f0 r0 L P), .int .i64 (13 - (n : Int))] w (SomeBool w)
theorem small_zero : SmallIs 0 := by
  intro k0 x0 y0 c0 d0 e0 f0 r0 L P w hL hP
  obtain ⟨pp, np, cp, rfl, hnp⟩ := hP.len
  obtain ⟨pl, nl, cl, rfl, hnl, hl⟩ := hL
  unfold shV
  rcases Nat.lt_or_ge 12 np with c1 | c1
  · have q1 : decide (np > 12) = true := by simp; omega
    have q2 : decide ((np : Int) > 12) = true := by simp; omega
    clear hP hl
    go_enter Tryz.func39, Tryz.ntmps39
    go_wp2_with fail
    go_ret
    exact ⟨_, rfl, by exact blw⟩
  have q1 : decide (np > 12) = false := by simp; omega
  have q2 : decide ((np : Int) > 12) = false := by simp; omega
  rcases Nat.lt_or_ge 12 nl with c2 | c2
  · have q3 : decide (nl > 12) = true := by simp; omega
    have q4 : decide ((nl : Int) > 12) = true := by simp; omega
    clear hP hl
    go_enter Tryz.func39, Tryz.ntmps39
    go_wp2_with fail
    go_ret
    exact ⟨_, rfl, by exact blw⟩
  have q3 : decide (nl > 12) = false := by simp; omega
  have q4 : decide ((nl : Int) > 12) = false := by simp; omega
  have q5 : decide ((13 : Int) > 12) = true := rfl
  clear hP hl
  go_enter Tryz.func39, Tryz.ntmps39
  go_wp2_with fail
  go_ret
  exact ⟨_, rfl, by exact blw⟩
theorem small_succ (n : Nat) (hn : n < 13) (ih : SmallIs n) : SmallIs (n + 1) := by
  intro k0 x0 y0 c0 d0 e0 f0 r0 L P w hL hP
  obtain ⟨pp, np, cp, rfl, hnp⟩ := hP.len
  obtain ⟨pl, nl, cl, rfl, hnl, hl⟩ := hL
  unfold shV
  rcases Nat.lt_or_ge 12 np with c1 | c1
  · have q1 : decide (np > 12) = true := by simp; omega
    have q2 : decide ((np : Int) > 12) = true := by simp; omega
    clear hP hl
    go_enter Tryz.func39, Tryz.ntmps39
    go_wp2_with fail
    go_ret
    exact ⟨_, rfl, by exact blw⟩
  have q1 : decide (np > 12) = false := by simp; omega
  have q2 : decide ((np : Int) > 12) = false := by simp; omega
  rcases Nat.lt_or_ge 12 nl with c2 | c2
  · have q3 : decide (nl > 12) = true := by simp; omega
    have q4 : decide ((nl : Int) > 12) = true := by simp; omega
    clear hP hl
    go_enter Tryz.func39, Tryz.ntmps39
    go_wp2_with fail
    go_ret
    exact ⟨_, rfl, by exact blw⟩
  have q3 : decide (nl > 12) = false := by simp; omega
  have q4 : decide ((nl : Int) > 12) = false := by simp; omega
  obtain ⟨D, eD⟩ : ∃ D : Int, 13 - ((n + 1 : Nat) : Int) = D := ⟨_, rfl⟩
  have hD0 : 0 ≤ D := by omega
  have hD1 : D ≤ 12 := by omega
  have eD1 : 13 - (n : Int) = D + 1 := by omega
  have ih2 := ih
  unfold SmallIs at ih2
  simp only [eD1] at ih2
  rw [eD]
  have q5 : decide (D > 12) = false := by simp; omega
  have HI := Lib.hid ih2
  have HP := Lib.hid hP
  have HL := Lib.hid (show PolyRd w (.slice pl nl cl) from ⟨pl, nl, cl, rfl, hnl, hl⟩)
  clear ih ih2 hP hl eD eD1
  go_enter Tryz.func39, Tryz.ntmps39
  go_wp2_with fail
  obtain ⟨u, eu⟩ : ∃ u, w.alloc (.cells #[.int .i64 k0, .int .i64 x0, .int .i64 y0, .int .i64 c0, .int .i64 d0, .int .i64 e0, .int .i64 f0, .int .i64 r0, .slice pl nl cl, .slice pp np cp] 62) = u := ⟨_, rfl⟩
  have bu : Below w.heap.size w u := by rw [← eu]; exact blw
  have ku : Blk u w.heap.size 62 #[.int .i64 k0, .int .i64 x0, .int .i64 y0, .int .i64 c0, .int .i64 d0, .int .i64 e0, .int .i64 f0, .int .i64 r0, .slice pl nl cl, .slice pp np cp] := by rw [← eu]; exact bkw
  rw [eu]
  have KU := Lib.hid ku
  have BU := Lib.hid bu
  have su := bu.size
  have cu := ku.cell
  have lu := ku.lt
  clear eu ku bu
  go_loop [5] (fun i => ∃ k : Nat, i = .int .i64 (k : Int) ∧ k ≤ nl) (fun i => nl - (intOf i).toNat)
  case atStart => exact ⟨0, rfl, Nat.zero_le _⟩
  case round =>
  obtain ⟨k, rfl, hk⟩ := hrel
  by_cases hlt : k < nl
  · obtain ⟨p', n', cap', e1, _, h1⟩ := HL.out.below BU.out (Nat.le_refl _)
    injection e1 with e1 e1n e1c
    subst e1 e1n e1c
    obtain ⟨b, off, rfl, lb, h1⟩ := h1 (by omega)
    obtain ⟨v, h2, p3, n3, cap3, rfl, hn3, _⟩ := h1 k hlt
    clear h1
    rcases Nat.lt_or_ge 40 n3 with c3 | c3
    · have q6 : decide (n3 > 40) = true := by simp; omega
      have q7 : decide ((n3 : Int) > 40) = true := by simp; omega
      go_wp2_with fail
      go_ret
      exact ⟨_, rfl, BU.out⟩
    · have q6 : decide (n3 > 40) = false := by simp; omega
      have q7 : decide ((n3 : Int) > 40) = false := by simp; omega
      go_wp2_with fail
      go_round
      case rel => exact ⟨k + 1, by go_num, by omega⟩
      case measure => simp [intOf]; omega
  · have e : k = nl := by omega
    subst e
    go_wp2_with fail
    go_loopw [6] (fun i wr => ∃ q : Nat, i = .int .i64 (q : Int) ∧ q ≤ np ∧ Blk wr w.heap.size 62 #[.int .i64 k0, .int .i64 x0, .int .i64 y0, .int .i64 c0, .int .i64 d0, .int .i64 e0, .int .i64 f0, .int .i64 r0, .slice pl k cl, .slice pp np cp] ∧ Below w.heap.size w wr) (fun i wr => np - (intOf i).toNat)
    case atStart => exact ⟨0, rfl, Nat.zero_le _, KU.out, BU.out⟩
    case round =>
    obtain ⟨q, rfl, hq, j0, hB⟩ := hrel
    by_cases hlq : q < np
    · obtain ⟨p', n', cap', e1, _, h1⟩ := HP.out.below hB (Nat.le_refl _)
      injection e1 with e1 e1n e1c
      subst e1 e1n e1c
      obtain ⟨b, off, rfl, lb, h1⟩ := h1 (by omega)
      obtain ⟨dk, k1, x1, y1, cc1, d1, ee1, f1, r1, L1, P1, _, h2, h3, h4⟩ := h1 q hlq
      have z0 := h2 0 _ rfl
      have z1 := h2 1 _ rfl
      have z2 := h2 2 _ rfl
      have z3 := h2 3 _ rfl
      have z4 := h2 4 _ rfl
      have z5 := h2 5 _ rfl
      have z6 := h2 6 _ rfl
      have z7 := h2 7 _ rfl
      have z8 := h2 8 _ rfl
      have z9 := h2 9 _ rfl
      simp only [Nat.reduceAdd] at z0 z1 z2 z3 z4 z5 z6 z7 z8 z9
      obtain ⟨pp1, np1, cp1, eP1, _⟩ := h4.len
      obtain ⟨pl1, nl1, cl1, eL1, _⟩ := id h3
      subst eP1 eL1
      have HC := Lib.hid (HI.out k1 x1 y1 cc1 d1 ee1 f1 r1 _ _ wr h3 h4)
      have J0 := Lib.hid j0
      have HB := Lib.hid hB
      have cj := j0.cell
      have lj := j0.lt
      have sB := hB.size
      clear h1 h2 h3 h4 j0 hB
      go_wp2_with fail
      have hc := HC.out
      unfold shV at hc
      refine hc.mono ?_
      rintro e z ⟨r, rfl, hb⟩
      have hB2 : Below w.heap.size w z := HB.out.trans (hb.mono sB)
      have j2 := J0.out.below hb lj
      have J2 := Lib.hid j2
      have HB2 := Lib.hid hB2
      clear hb j2 hB2 hc z0 z1 z2 z3 z4 z5 z6 z7 z8 z9
      cases r
      · go_wp2_with fail
        go_ret
        exact ⟨_, rfl, HB2.out⟩
      · go_wp2_with fail
        go_roundw
        case rel =>
          have hr2 : ∃ q' : Nat, Value.int .i64 ((q : Int) + 1) = .int .i64 (q' : Int) ∧ q' ≤ np ∧ Blk z w.heap.size 62 #[.int .i64 k0, .int .i64 x0, .int .i64 y0, .int .i64 c0, .int .i64 d0, .int .i64 e0, .int .i64 f0, .int .i64 r0, .slice pl k cl, .slice (some ⟨b, off, none⟩) np cp] ∧ Below w.heap.size w z := ⟨q + 1, by go_num, by omega, J2.out, HB2.out⟩
          first | exact hr2 | ((repeat apply Exists.intro); exact ⟨hr2, rfl⟩)
        case measure => simp [intOf]; omega
    · have e : q = np := by omega
      subst e
      have HB := Lib.hid hB
      have J0 := Lib.hid j0
      have cj := j0.cell
      have lj := j0.lt
      clear hB j0
      go_wp2_with fail
      go_ret
      exact ⟨_, rfl, HB.out⟩
theorem small_any : ∀ n, n ≤ 13 → SmallIs n
  | 0, _ => small_zero
  | n + 1, h => small_succ n (by omega) (small_any n (by omega))
end Go.Proofs.YtfajckkbinbpiaaGreatDoor
